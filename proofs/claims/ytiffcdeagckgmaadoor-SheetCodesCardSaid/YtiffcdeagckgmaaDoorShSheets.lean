/- codexkeep.Sheets of two sheets that are alike. -/
import Derived.Test.YtiffcdeagckgmaaDoorShOwn
namespace Go.Proofs.YtiffcdeagckgmaaDoor
set_option linter.unusedSimpArgs false
set_option linter.unusedVariables false
open Go.RowKit Go.ChangeShapes Go.WideShapes Go.Sort Go.Deep
set_option maxRecDepth 100000 in
set_option maxHeartbeats 16000000 in
theorem sheets_same {g1 g2 o1 o2 n1 c1 n2 c2 c c' : Nat} {num : Int} {A1 A2 : Option Addr} {la lb : List (LN × List PC)} (w : World) (hc1 : 1 ≤ c) (hc2 : 1 ≤ c')
    (h1 : w.cell? ⟨g1, o1, none⟩ = some (.int .i64 num)) (h2 : w.cell? ⟨g1, o1 + 1, none⟩ = some (.slice A1 n1 c1)) (h3 : w.cell? ⟨g2, o2, none⟩ = some (.int .i64 num)) (h4 : w.cell? ⟨g2, o2 + 1, none⟩ = some (.slice A2 n2 c2))
    (hg1 : g1 < w.heap.size) (hg2 : g2 < w.heap.size) (ha : RnAt w w.heap.size A1 n1 c1 la) (hb : RnAt w w.heap.size A2 n2 c2 lb) (hs : RSame la lb) (hn : n1 ≤ 1000000) :
    Calls Tryd.prog 16 #[.slice (some ⟨g1, o1, none⟩) 1 c, .slice (some ⟨g2, o2, none⟩) 1 c'] w (Ret w (.bool true)) := by
  have hL := fun W (hB : Below w.heap.size w W) => lines_same W (ha.nxt hB) (hb.nxt hB) hs hn
  have HL := Lib.hid hL
  have HC := Lib.hid (And.intro h1 (And.intro h2 (And.intro h3 h4)))
  clear hL ha hb hs h1 h2 h3 h4
  go_enter Tryd.func16, Tryd.ntmps16
  go_wp2_with fail
  go_loopw [5] (fun s5 wr => ∃ k : Nat, k ≤ 1 ∧ s5 = .int .i64 k ∧ Below w.heap.size w wr) (fun q _ => 1 - (intOf q).toNat)
  case atStart => exact ⟨0, by omega, rfl, Below.refl _ _⟩
  case round =>
    obtain ⟨k, hk, rfl, hbr⟩ := hrel
    by_cases hlt : k < 1
    · obtain rfl : k = 0 := by omega
      let S : World → Prop := fun w' => Below w.heap.size w w'
      have hS0 : S wr.drew := hbr.drew
      obtain ⟨h1, h2, h3, h4⟩ := HC.out
      have r1 : ∀ w', S w' → w'.cell? ⟨g1, o1, none⟩ = some (.int .i64 num) := fun w' h => (h.cell (p := ⟨g1, o1, none⟩) hg1).trans h1
      have r2 : ∀ w', S w' → w'.cell? ⟨g1, o1 + 1, none⟩ = some (.slice A1 n1 c1) := fun w' h => (h.cell (p := ⟨g1, o1 + 1, none⟩) hg1).trans h2
      have r3 : ∀ w', S w' → w'.cell? ⟨g2, o2, none⟩ = some (.int .i64 num) := fun w' h => (h.cell (p := ⟨g2, o2, none⟩) hg2).trans h3
      have r4 : ∀ w', S w' → w'.cell? ⟨g2, o2 + 1, none⟩ = some (.slice A2 n2 c2) := fun w' h => (h.cell (p := ⟨g2, o2 + 1, none⟩) hg2).trans h4
      have HB := Lib.hid hbr
      clear h1 h2 h3 h4 hbr
      go_upto_region 6 with (fail)
      refine wp_region_held (S := S) (by kernel_rfl) ?_
      change wpAnyH _ _ _ _ S _ _ _ wr.drew
      change At 0 _
      iterate 22 (first | (apply tkA; (case hi => (simp only [List.getElem?_toArray, List.getElem?_cons_zero, List.getElem?_cons_succ]; rfl)); (case hw => rfl); (case hy => (intro w' hSw; have q1 := r1 w' hSw; have q2 := r2 w' hSw; have q3 := r3 w' hSw; have q4 := r4 w' hSw; (try simp only [S] at hSw); go_simp; (try with_reducible rfl))); (case hs => kernel_rfl); (case hf => kernel_rfl); (case hr => kernel_rfl); (case hQ => exact fun _ _ _ h => h); (case hS => assumption); (try simp only [Act.put, List.setIfInBounds_toArray, List.set_cons_zero, List.set_cons_succ, Nat.reduceAdd])) | (apply skA; (case hi => (simp only [List.getElem?_toArray, List.getElem?_cons_zero, List.getElem?_cons_succ]; rfl)); (case hw => rfl); (case hs => kernel_rfl); (case hf => kernel_rfl); (case hr => kernel_rfl); (case hQ => exact fun _ _ _ h => h); (case hS => assumption); (try simp only [Act.put, List.setIfInBounds_toArray, List.set_cons_zero, List.set_cons_succ, Nat.reduceAdd])))
      change wpAnyH _ _ _ _ _ _ _ _ _
      refine wpAnyH_ready (rs := [22]) (by kernel_rfl) (by simp) (AllReadyH.cons (o := ?oo22_3) ?hoo22_3 (fun K hK => ?steponly3) AllReadyH.nil); (case hoo22_3 => (simp only [List.getElem?_toArray, List.getElem?_cons_zero, List.getElem?_cons_succ]; rfl))
      go_simp
      refine Calls.mono (HL.out wr.drew HB.out.drew) ?_
      rintro e w2 ⟨rfl, hb2⟩
      have hS2 : S w2 := bNext (HB.out.drew) hb2
      refine hK.out _ _ hS2 (fun _ => ?_)
      clear hK K
      (try simp only [Act.put, List.setIfInBounds_toArray, List.set_cons_zero, List.set_cons_succ])
      refine wpAnyH_take (i := 23) (oi := ?oi_1) (v := ?v_1) ?ho_1 ?h1_1 ?h2_1 ?h3_1 ?hq_1 (Or.inl ⟨?hw_1, ?hy_1⟩) ?hs_1 ?rest_1; (case h2_1 => kernel_rfl); (case h3_1 => kernel_rfl); (case ho_1 => (simp only [List.getElem?_toArray, List.getElem?_cons_zero, List.getElem?_cons_succ]; rfl)); (case h1_1 => kernel_rfl); (case hq_1 => exact fun _ _ _ h => h); (case hw_1 => rfl); (case hy_1 => (intro w' hSw; (try simp only [S] at hSw); go_simp; (try with_reducible rfl))); (case hs_1 => assumption); (try simp only [Act.put, List.setIfInBounds_toArray, List.set_cons_zero, List.set_cons_succ])
      refine wpAnyH_take (i := 24) (oi := ?oi_2) (v := ?v_2) ?ho_2 ?h1_2 ?h2_2 ?h3_2 ?hq_2 (Or.inl ⟨?hw_2, ?hy_2⟩) ?hs_2 ?rest_2; (case h2_2 => kernel_rfl); (case h3_2 => kernel_rfl); (case ho_2 => (simp only [List.getElem?_toArray, List.getElem?_cons_zero, List.getElem?_cons_succ]; rfl)); (case h1_2 => kernel_rfl); (case hq_2 => exact fun _ _ _ h => h); (case hw_2 => rfl); (case hy_2 => (intro w' hSw; (try simp only [S] at hSw); go_simp; (try with_reducible rfl))); (case hs_2 => assumption); (try simp only [Act.put, List.setIfInBounds_toArray, List.set_cons_zero, List.set_cons_succ])
      refine wpAnyH_done (by kernel_rfl) ?_ _
      clear hS0 r1 r2 r3 r4
      go_wp2_with fail
      go_roundw
      case rel => exact ⟨1, by omega, by go_num, hS2⟩
      case measure => simp [intOf]; try omega
    · obtain rfl : k = 1 := by omega
      have HB := Lib.hid hbr
      clear hbr
      go_wp2_with fail
      go_ret
      exact Ret.mk rfl HB.out
end Go.Proofs.YtiffcdeagckgmaaDoor
