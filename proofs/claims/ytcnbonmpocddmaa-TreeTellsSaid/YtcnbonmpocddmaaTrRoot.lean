/- tree.Root and the reference's. -/
import Derived.Test.YtcnbonmpocddmaaTrAll
namespace Go.Proofs.Ytcnbonmpocddmaa
set_option linter.unusedSimpArgs false
set_option linter.unusedVariables false
open Go.RowKit Go.Shelf Go.Sort

theorem allN_small {l : List (List UInt8)} (h : ∀ x ∈ l, x.length = 32) : ∀ y ∈ allN l, y.length ≤ 98 := by
  have : ∀ (q lv : Nat) (l : List (List UInt8)), (∀ x ∈ l, x.length = 32) → ∀ y ∈ (levelsT nK q lv l).flatten, y.length ≤ 98 := by
    intro q
    induction q with
    | zero => intro lv l _ y hy; cases hy
    | succ q ih =>
      intro lv l hl y hy
      rw [levelsT] at hy
      split at hy
      · exact (nodesT_small hl y (by simpa using hy)).2
      · rw [List.flatten_cons, List.mem_append] at hy
        rcases hy with hy | hy
        · exact (nodesT_small hl y hy).2
        · exact ih _ _ (fun x hx => by obtain ⟨y, -, rfl⟩ := List.mem_map.1 hx; exact nK_len y) y hy
  intro y hy
  unfold allN at hy
  split at hy
  · exact this _ _ _ h y hy
  · cases hy
theorem allN_len (l : List (List UInt8)) : (allN l).length ≤ 7000 := by
  have : ∀ (q lv : Nat) (l : List (List UInt8)), l.length ≤ 1000 → (levelsT nK q lv l).flatten.length ≤ q * 1000 := by
    intro q
    induction q with
    | zero => intro lv l _; simp [levelsT]
    | succ q ih =>
      intro lv l hl
      have hn : (nodesT lv l).length ≤ 1000 := by rw [nodesT_len]; split <;> omega
      rw [levelsT]
      split
      · simp; omega
      · rw [List.flatten_cons, List.length_append]
        have := ih (lv + 1) ((nodesT lv l).map nK) (by rw [List.length_map]; exact hn)
        omega
  unfold allN
  split
  · have := this 7 0 l (by assumption); omega
  · simp
def rootT (l : List (List UInt8)) : List UInt8 := match (allN l).getLast? with | none => List.replicate 32 0 | some x => nK x
theorem rootT_len (l : List (List UInt8)) : (rootT l).length = 32 := by
  unfold rootT
  split
  · simp
  · exact nK_len _
theorem built_dg0 : Try.prog.built 40 [] = some (bvs (List.replicate 32 0)).toArray := built_none dgZ (n := 32) (e := 5) (by kernel_rfl) (by kernel_rfl)

set_option maxHeartbeats 4000000 in
set_option maxRecDepth 100000 in
theorem root_any {A : Option Addr} {n c : Nat} {l : List (List UInt8)} (w : World) (hl : DgAt w w.heap.size A n c l) (hn : n ≤ 1000000) :
    Calls Try.prog 16 #[.slice A n c] w (Ret w (.agg (bvs (rootT l)).toArray)) := by
  obtain ⟨RV, hRV⟩ : ∃ r, rootT l = r := ⟨_, rfl⟩
  have hrl : RV.length = 32 := by rw [← hRV]; exact rootT_len l
  have HR := Lib.hid hRV
  rw [hRV]
  clear hRV
  obtain ⟨z32, hz⟩ : ∃ z : List UInt8, List.replicate 32 0 = z := ⟨_, rfl⟩
  have hzl : z32.length = 32 := by rw [← hz]; rfl
  have hzZ := dgZ
  have hb0 := built_dg0
  have HZ := Lib.hid hz
  rw [hz] at hzZ hb0
  clear hz
  have hsm := allN_small hl.wide
  have hcnt := allN_len l
  go_enter Try.func16, Try.ntmps16
  go_upto_region 1 with (first | (refine wpList_new rfl hzZ rfl ?_) | fail)
  generalize hW0 : World.alloc w _ = W0
  have a00 : W0.heap[w.heap.size]? = some (.cells (bvs z32).toArray 40) := by rw [← hW0]; exact heap_alloc_new _ _
  have hwz : w.heap.size < W0.heap.size := by rw [← hW0]; simp
  have hB0 : Below w.heap.size w W0 := by rw [← hW0]; exact (Below.refl _ _).alloc (Nat.le_refl _) _
  clear hW0
  have hnod := allnodes_any W0 (hl.nxt hB0) hn
  clear hl
  go_wp2_with fail
  refine hnod.mono ?_
  rintro e w1 ⟨v, L, rfl, hnd, hb1⟩
  obtain ⟨Av, cv, rfl, -⟩ := own_form hnd.own
  have a01 := bBlk hb1 hwz a00
  have hB1 := hB0.trans (hb1.mono (by omega))
  have hw1 := hb1.size
  clear hnod hB0 a00 hb1
  have hsz := fun (a b : List UInt8) (ha : a.length = 32) (hb : b.length = 32) => (show (bvs a).toArray.size = (bvs b).toArray.size by rw [List.size_toArray, List.size_toArray, bvs_len, bvs_len, ha, hb])
  by_cases h0 : (allN l).length = 0
  · have hi : ((allN l).length : Int) = 0 := by omega
    have hR : RV = z32 := by rw [← HR.out, ← HZ.out]; unfold rootT; rw [List.eq_nil_of_length_eq_zero h0]; rfl
    subst hR
    clear hcnt hsm h0
    have HN := Lib.hid hnd
    clear hnd
    obtain ⟨cs, hcs⟩ : ∃ q, (bvs RV).toArray = q := ⟨_, rfl⟩
    have hi9 : (Try.prog.info? 40).map (·.size) = some cs.size := by rw [← hcs, List.size_toArray, bvs_len, hrl]; exact dg_size
    have ho9 : cs.all (·.oneCell') = true := by rw [← hcs]; exact all_oneCell_toArray (oneCell_bvs _)
    rw [hcs] at a01 hb0 ⊢
    have HCS := Lib.hid hcs
    clear hcs
    go_wp2_with (first
      | (refine wpList_built rfl 40 #[] rfl (cs := cs) (by simp only [List.map_toArray, List.map_nil]; exact hb0) ?_)
      | (refine wpList_store_row rfl 40 (.tmp 2) (.tmp 9) rfl _ cs rfl rfl _ cs a01 hi9 rfl ho9 ?_)
      | fail)
    obtain ⟨X9, hX⟩ : ∃ q, w1.setRow w.heap.size cs = q := ⟨_, rfl⟩
    have b9 : X9.heap[w.heap.size]? = some (.cells cs 40) := by rw [← hX]; exact setRow_heap _ _ _ _ _ _ a01
    have hBX : Below w.heap.size w X9 := by rw [← hX]; exact bSetRow hB1 (Nat.le_refl _) _
    rw [hX]
    clear hX
    refine bodyPost_ret (results_cell_row Try.results16 _ X9 w.heap.size 40 cs (0, 0) _ ?_ b9 Try.underlying40 rfl hi9) rfl ?_
    · rfl
    · exact Ret.mk (by rw [HCS.out]) hBX
  · have hLl : L.length = (allN l).length := by rw [← hnd.txt, ndT, List.length_map]
    obtain ⟨x, hx⟩ : ∃ x, L[(allN l).length - 1]? = some x := ⟨_, List.getElem?_eq_getElem (by omega)⟩
    have hxn : (allN l)[(allN l).length - 1]? = some x.2.2 := by
      have h2 := hnd.txt
      rw [← h2, ndT, List.getElem?_map, List.length_map]
      rw [← h2, ndT, List.length_map] at hx
      rw [hx]; rfl
    have hR : RV = nK x.2.2 := by rw [← HR.out]; unfold rootT; rw [List.getLast?_eq_getElem?, hxn]
    subst hR
    obtain ⟨b, c2, ev, hb1, hb2, hbc, -⟩ := hnd.entry hx
    cases ev
    have hnx := hnd.each x (List.mem_of_getElem? hx)
    have hxl : x.2.2.length ≤ 1000000000 := by have := hsm _ (List.mem_of_getElem? hxn); omega
    have hof := of_any (kind := 4) (c := x.2.1) hxl w1 (Nat.le_refl _) hnx.sl
    rw [show u8 4 = (4 : UInt8) from by decide] at hof
    change Calls _ _ _ _ (Ret w1 (.agg (bvs (nK x.2.2)).toArray)) at hof
    obtain ⟨R, hR⟩ : ∃ r, nK x.2.2 = r := ⟨_, rfl⟩
    rw [hR] at hof hrl ⊢
    unfold slv at hbc
    have HRR := Lib.hid hR
    clear hnx hxl hxn hx hLl hnd hsm HR hR
    obtain ⟨m, hm⟩ : ∃ m, (allN l).length = m + 1 := ⟨(allN l).length - 1, by omega⟩
    rw [hm] at hcnt hbc h0 ⊢
    have i1 : ¬ ((m + 1 : Nat) : Int) = 0 := by omega
    have g1 : IntKind.i64.wrap (((m + 1 : Nat) : Int) - 1) = (m : Int) := by rw [wrap_small _ (by omega) (by omega)]; omega
    have i2 : (m : Int) < ((m + 1 : Nat) : Int) := by omega
    have i3 : m < m + 1 := by omega
    rw [Nat.add_sub_cancel] at hbc
    clear hm h0
    go_upto_region 4 with (fail)
    go_wp2_with (first
      | (go_at_call 20; refine hof.mono ?_; rintro e w2 ⟨rfl, hb2⟩)
      | (refine wpList_store_row rfl 40 (.tmp 2) (.tmp 16) rfl _ (bvs R).toArray rfl rfl _ (bvs z32).toArray (bBlk hb2 (by omega) a01) (by rw [List.size_toArray, bvs_len, hrl]; exact dg_size) (hsz _ _ hzl hrl) (all_oneCell_toArray (oneCell_bvs _)) ?_)
      | fail)
    obtain ⟨X9, hX⟩ : ∃ q, w2.setRow w.heap.size (bvs R).toArray = q := ⟨_, rfl⟩
    have b9 : X9.heap[w.heap.size]? = some (.cells (bvs R).toArray 40) := by rw [← hX]; exact setRow_heap _ _ _ _ _ _ (bBlk hb2 (by omega) a01)
    have hBX : Below w.heap.size w X9 := by rw [← hX]; exact bSetRow (hB1.trans (hb2.mono hB1.size)) (Nat.le_refl _) _
    rw [hX]
    clear hX
    refine bodyPost_ret (results_cell_row Try.results16 _ X9 w.heap.size 40 (bvs R).toArray (0, 0) _ ?_ b9 Try.underlying40 rfl (by rw [List.size_toArray, bvs_len, hrl]; exact dg_size)) rfl ?_
    · rfl
    · exact Ret.mk (by rw [HRR.out]) hBX
end Go.Proofs.Ytcnbonmpocddmaa
