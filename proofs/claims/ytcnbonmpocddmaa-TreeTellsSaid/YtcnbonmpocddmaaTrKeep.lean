/- keep.Digests where both are alike. -/
import Derived.Test.YtcnbonmpocddmaaTrEnc
namespace Go.Proofs.Ytcnbonmpocddmaa
set_option linter.unusedSimpArgs false
set_option linter.unusedVariables false
open Go.RowKit Go.Sort

theorem dg_eq {x : List UInt8} (hx : x.length = 32) (w : World) : (Op.equalIn 10000 40 (.agg (bvs x).toArray) (.agg (bvs x).toArray)).run Try.prog w = .ok true w := by
  have := run_equalIn_bytes (P := Try.prog) w 9998 40 5 32 Try.underlying40 Try.underlying5 u8_sizeOf' x x hx hx
  rw [beq_self_eq_true] at this
  exact this
set_option maxHeartbeats 8000000 in
set_option maxRecDepth 100000 in
theorem keepd_same {A A' : Option Addr} {n m c c' B B' : Nat} {la : List (List UInt8)} (w : World) (ha : DgAt w B A n c la) (hb : DgAt w B' A' m c' la) (hB : B ≤ w.heap.size) (hB' : B' ≤ w.heap.size) (hn : n ≤ 1000000) :
    Calls Try.prog 15 #[.slice A n c, .slice A' m c'] w (Ret w (.bool true)) := by
  have hln := ha.len
  have hlm := hb.len
  have HA := Lib.hid ha
  have HB := Lib.hid hb
  obtain rfl : n = m := by omega
  have HN := Lib.hid hln
  clear hln hlm ha hb
  go_enter Try.func15, Try.ntmps15
  go_wp2_with fail
  go_loopw [5] (fun i wr => ∃ k : Nat, k ≤ n ∧ i = .int .i64 k ∧ Below w.heap.size w wr) (fun i _ => n - (intOf i).toNat)
  case atStart => exact ⟨0, by omega, rfl, Below.refl _ _⟩
  case round =>
    obtain ⟨k, hk, rfl, hBr⟩ := hrel
    by_cases hlt : k < n
    · obtain ⟨x, hx⟩ : ∃ x, la[k]? = some x := ⟨_, List.getElem?_eq_getElem (by rw [HN.out]; exact hlt)⟩
      obtain ⟨b, o, rfl, hbB, hxr⟩ := HA.out.entry hx
      obtain ⟨b', o', rfl, hbB', hyr⟩ := HB.out.entry hx
      have hi1 : (k : Int) < (n : Int) := by omega
      have g1 : IntKind.i64.wrap ((k : Int) + 1) = ((k + 1 : Nat) : Int) := by rw [wrap_small _ (by omega) (by omega)]; omega
      have hxl := HA.out.wide x (List.mem_of_getElem? hx)
      have hxi : (Try.prog.info? 40).map (·.size) = some (bvs x).length := by rw [bvs_len, hxl]; exact dg_size
      have hq := fun w => dg_eq hxl w
      obtain ⟨xc, hxc⟩ : ∃ q, bvs x = q := ⟨_, rfl⟩
      rw [hxc] at hxr hyr hxi
      simp only [hxc] at hq
      let S : World → Prop := fun w' => Below w.heap.size w w'
      have r1 : ∀ w', S w' → w'.rangeAt b (o + k * 32) xc := fun w' h => bRange h (by omega) hxr
      have r2 : ∀ w', S w' → w'.rangeAt b' (o' + k * 32) xc := fun w' h => bRange h (by omega) hyr
      have hS0 : S wr.drew := hBr.drew
      have HX := Lib.hid hBr
      clear hx hxr hyr hBr hxc
      go_upto_region 6 with (fail)
      refine wp_region_held (S := S) (by kernel_rfl) ?_
      change wpAnyH _ _ _ _ S _ _ _ wr.drew
      refine wpAnyH_take (i := 0) (oi := ?oi_124) (v := ?v_124) ?ho_124 ?h1_124 ?h2_124 ?h3_124 ?hq_124 (Or.inl ⟨?hw_124, ?hy_124⟩) ?hs_124 ?rest_124; (case h2_124 => kernel_rfl); (case h3_124 => kernel_rfl); (case ho_124 => (simp only [List.getElem?_toArray, List.getElem?_cons_zero, List.getElem?_cons_succ]; rfl)); (case h1_124 => kernel_rfl); (case hq_124 => exact fun _ _ _ h => h); (case hw_124 => rfl); (case hy_124 => (intro w' hSw; (try simp only [S] at hSw); go_simp; (try with_reducible rfl))); (case hs_124 => assumption); (try simp only [Act.put, List.setIfInBounds_toArray, List.set_cons_zero, List.set_cons_succ])
      refine wpAnyH_take (i := 1) (oi := ?oi_125) (v := ?v_125) ?ho_125 ?h1_125 ?h2_125 ?h3_125 ?hq_125 (Or.inl ⟨?hw_125, ?hy_125⟩) ?hs_125 ?rest_125; (case h2_125 => kernel_rfl); (case h3_125 => kernel_rfl); (case ho_125 => (simp only [List.getElem?_toArray, List.getElem?_cons_zero, List.getElem?_cons_succ]; rfl)); (case h1_125 => kernel_rfl); (case hq_125 => exact fun _ _ _ h => h); (case hw_125 => rfl); (case hy_125 => (intro w' hSw; (try simp only [S] at hSw); go_simp; (try with_reducible rfl))); (case hs_125 => assumption); (try simp only [Act.put, List.setIfInBounds_toArray, List.set_cons_zero, List.set_cons_succ])
      refine wpAnyH_take (i := 2) (oi := ?oi_126) (v := ?v_126) ?ho_126 ?h1_126 ?h2_126 ?h3_126 ?hq_126 (Or.inl ⟨?hw_126, ?hy_126⟩) ?hs_126 ?rest_126; (case h2_126 => kernel_rfl); (case h3_126 => kernel_rfl); (case ho_126 => (simp only [List.getElem?_toArray, List.getElem?_cons_zero, List.getElem?_cons_succ]; rfl)); (case h1_126 => kernel_rfl); (case hq_126 => exact fun _ _ _ h => h); (case hw_126 => rfl); (case hy_126 => (intro w' hSw; (try simp only [S] at hSw); go_simp; (try with_reducible rfl))); (case hs_126 => assumption); (try simp only [Act.put, List.setIfInBounds_toArray, List.set_cons_zero, List.set_cons_succ])
      refine wpAnyH_take (i := 3) (oi := ?oi_131) (v := ?v_131) ?ho_131 ?h1_131 ?h2_131 ?h3_131 ?hq_131 (Or.inl ⟨?hw_131, ?hy_131⟩) ?hs_131 ?rest_131; (case h2_131 => kernel_rfl); (case h3_131 => kernel_rfl); (case ho_131 => (simp only [List.getElem?_toArray, List.getElem?_cons_zero, List.getElem?_cons_succ]; rfl)); (case h1_131 => kernel_rfl); (case hq_131 => exact fun _ _ _ h => h); (case hw_131 => rfl); (case hy_131 => (intro w' hSw; refine exec_load_row (x := .tmp 19) ?_ ?_ (r1 w' hSw) Try.underlying40 ?_ hxi <;> rfl)); (case hs_131 => assumption); (try simp only [Act.put, List.setIfInBounds_toArray, List.set_cons_zero, List.set_cons_succ])
      refine wpAnyH_take (i := 4) (oi := ?oi_127) (v := ?v_127) ?ho_127 ?h1_127 ?h2_127 ?h3_127 ?hq_127 (Or.inl ⟨?hw_127, ?hy_127⟩) ?hs_127 ?rest_127; (case h2_127 => kernel_rfl); (case h3_127 => kernel_rfl); (case ho_127 => (simp only [List.getElem?_toArray, List.getElem?_cons_zero, List.getElem?_cons_succ]; rfl)); (case h1_127 => kernel_rfl); (case hq_127 => exact fun _ _ _ h => h); (case hw_127 => rfl); (case hy_127 => (intro w' hSw; (try simp only [S] at hSw); go_simp; (try with_reducible rfl))); (case hs_127 => assumption); (try simp only [Act.put, List.setIfInBounds_toArray, List.set_cons_zero, List.set_cons_succ])
      refine wpAnyH_take (i := 5) (oi := ?oi_128) (v := ?v_128) ?ho_128 ?h1_128 ?h2_128 ?h3_128 ?hq_128 (Or.inl ⟨?hw_128, ?hy_128⟩) ?hs_128 ?rest_128; (case h2_128 => kernel_rfl); (case h3_128 => kernel_rfl); (case ho_128 => (simp only [List.getElem?_toArray, List.getElem?_cons_zero, List.getElem?_cons_succ]; rfl)); (case h1_128 => kernel_rfl); (case hq_128 => exact fun _ _ _ h => h); (case hw_128 => rfl); (case hy_128 => (intro w' hSw; (try simp only [S] at hSw); go_simp; (try with_reducible rfl))); (case hs_128 => assumption); (try simp only [Act.put, List.setIfInBounds_toArray, List.set_cons_zero, List.set_cons_succ])
      refine wpAnyH_take (i := 6) (oi := ?oi_129) (v := ?v_129) ?ho_129 ?h1_129 ?h2_129 ?h3_129 ?hq_129 (Or.inl ⟨?hw_129, ?hy_129⟩) ?hs_129 ?rest_129; (case h2_129 => kernel_rfl); (case h3_129 => kernel_rfl); (case ho_129 => (simp only [List.getElem?_toArray, List.getElem?_cons_zero, List.getElem?_cons_succ]; rfl)); (case h1_129 => kernel_rfl); (case hq_129 => exact fun _ _ _ h => h); (case hw_129 => rfl); (case hy_129 => (intro w' hSw; (try simp only [S] at hSw); go_simp; (try with_reducible rfl))); (case hs_129 => assumption); (try simp only [Act.put, List.setIfInBounds_toArray, List.set_cons_zero, List.set_cons_succ])
      refine wpAnyH_take (i := 7) (oi := ?oi_132) (v := ?v_132) ?ho_132 ?h1_132 ?h2_132 ?h3_132 ?hq_132 (Or.inl ⟨?hw_132, ?hy_132⟩) ?hs_132 ?rest_132; (case h2_132 => kernel_rfl); (case h3_132 => kernel_rfl); (case ho_132 => (simp only [List.getElem?_toArray, List.getElem?_cons_zero, List.getElem?_cons_succ]; rfl)); (case h1_132 => kernel_rfl); (case hq_132 => exact fun _ _ _ h => h); (case hw_132 => rfl); (case hy_132 => (intro w' hSw; refine exec_load_row (x := .tmp 23) ?_ ?_ (r2 w' hSw) Try.underlying40 ?_ hxi <;> rfl)); (case hs_132 => assumption); (try simp only [Act.put, List.setIfInBounds_toArray, List.set_cons_zero, List.set_cons_succ])
      refine wpAnyH_take (i := 8) (oi := ?oi_130) (v := ?v_130) ?ho_130 ?h1_130 ?h2_130 ?h3_130 ?hq_130 (Or.inl ⟨?hw_130, ?hy_130⟩) ?hs_130 ?rest_130; (case h2_130 => kernel_rfl); (case h3_130 => kernel_rfl); (case ho_130 => (simp only [List.getElem?_toArray, List.getElem?_cons_zero, List.getElem?_cons_succ]; rfl)); (case h1_130 => kernel_rfl); (case hq_130 => exact fun _ _ _ h => h); (case hw_130 => rfl); (case hy_130 => (intro w' hSw; (try simp only [S] at hSw); go_simp; (try with_reducible rfl))); (case hs_130 => assumption); (try simp only [Act.put, List.setIfInBounds_toArray, List.set_cons_zero, List.set_cons_succ])
      refine wpAnyH_done (by kernel_rfl) ?_ _
      clear hS0 r1 r2
      go_wp2_with fail
      go_roundw
      case rel => exact ⟨k + 1, by omega, by go_num, HX.out.drew⟩
      case measure => simp [intOf]; omega
    · obtain rfl : k = n := by omega
      have hi1 : ¬ (k : Int) < (k : Int) := by omega
      have HR := Lib.hid hBr
      clear hBr
      go_wp2_with fail
      go_ret
      exact Ret.mk rfl HR.out
end Go.Proofs.Ytcnbonmpocddmaa
