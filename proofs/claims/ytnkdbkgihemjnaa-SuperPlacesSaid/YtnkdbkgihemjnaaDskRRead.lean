/- The walk over codexref01's Read. -/
import Derived.Test.YtnkdbkgihemjnaaDskRSync
import Derived.Test.YtnkdbkgihemjnaaDskRead
namespace Go.Proofs.Ytnkdbkgihemjnaa
set_option linter.unusedSimpArgs false
set_option linter.unusedVariables false
open Go.RowKit

set_option maxHeartbeats 4000000 in
set_option maxRecDepth 100000 in
theorem rread_bad {w : World} {base p B : Nat} {v : Value} {s : DS} {F : Int} (h : RDk w base p B v s F) (i : Int) (hb : s.inB i = false ∨ s.down = true) :
    Calls Try.prog 62 #[dp p, .int .i64 i] w (Ret w (.tuple #[bkv (s.read i), .int .i64 (s.readE i)])) := by
  unfold bkv
  obtain ⟨W, hW⟩ : ∃ W, w.alloc (.cells (bvs zblk).toArray 40) = W := ⟨_, rfl⟩
  have hBW : Below w.heap.size w W := by rw [← hW]; exact (Below.refl _ _).alloc (Nat.le_refl _) _
  have bb : W.heap[w.heap.size]? = some (.cells (bvs zblk).toArray 40) := by rw [← hW]; exact heap_alloc_new _ _
  have hk := h.below hBW
  have hhas := rhas_any hk i
  have hrd : s.read i = zblk := by
    unfold DS.read
    rcases hb with e | e
    · rw [e]; rfl
    · rw [e]; split <;> simp
  rw [hrd]
  obtain ⟨hb0, c0, c1, c2, c3, c4, fr⟩ := hk.hds
  have hX2 := setRow_heap W w.heap.size (bvs zblk).toArray (bvs zblk).toArray 40 _ bb
  have hBX := bSetRow hBW (Nat.le_refl _) (bvs zblk).toArray
  have hld := run_loadVar_row (P := Try.prog) (W.setRow w.heap.size (bvs zblk).toArray) _ _ 40 _ _ _ hX2 Try.underlying40 rfl (bk_info zblk_len)
  have HX := Lib.hid hBX
  clear hb0 c0 c1 c2 c4 hk hX2 hBX hrd
  cases hin : s.inB i
  · have hre : Hid (s.readE i = 1) := Lib.hid (by simp [DS.readE, hin])
    rw [hin] at hhas
    unfold dp at *
    go_enter Try.func62, Try.ntmps62
    go_wp2_with (first | (refine wpList_new rfl blkZ rfl ?_) | fail)
    refine hhas.mono ?_
    rintro e w' ⟨rfl, rfl⟩
    go_wp2_with (first
      | (refine wpList_built rfl 40 #[] rfl (cs := (bvs zblk).toArray) (by simp only [List.map_toArray, List.map_nil]; exact built_blk0) ?_)
      | (refine wpList_store_row rfl 40 (.tmp 4) (.tmp 11) rfl _ (bvs zblk).toArray rfl rfl _ (bvs zblk).toArray bb (bk_info zblk_len) rfl (all_oneCell_toArray (oneCell_bvs _)) ?_)
      | fail)
    refine bodyPost_ret (by simp [results, Try.results62, Act.put, asAddr, Result.andThen, hld]; try rfl) rfl ?_
    exact Ret.mk (by rw [hre.out]) HX.out
  · have hdn : s.down = true := by
      rcases hb with e | e
      · rw [hin] at e; cases e
      · exact e
    have hre : Hid (s.readE i = 12) := Lib.hid (by simp [DS.readE, hin, hdn])
    rw [hin] at hhas
    rw [hdn] at c3
    unfold dp at *
    go_enter Try.func62, Try.ntmps62
    go_wp2_with (first | (refine wpList_new rfl blkZ rfl ?_) | fail)
    refine hhas.mono ?_
    rintro e w' ⟨rfl, rfl⟩
    go_wp2_with (first
      | (refine wpList_built rfl 40 #[] rfl (cs := (bvs zblk).toArray) (by simp only [List.map_toArray, List.map_nil]; exact built_blk0) ?_)
      | (refine wpList_store_row rfl 40 (.tmp 4) (.tmp 16) rfl _ (bvs zblk).toArray rfl rfl _ (bvs zblk).toArray bb (bk_info zblk_len) rfl (all_oneCell_toArray (oneCell_bvs _)) ?_)
      | fail)
    refine bodyPost_ret (by simp [results, Try.results62, Act.put, asAddr, Result.andThen, hld]; try rfl) rfl ?_
    exact Ret.mk (by rw [hre.out]) HX.out
theorem split_at {α : Type} {l : List α} {k : Nat} {x : α} (h : l[k]? = some x) : l = l.take k ++ x :: l.drop (k + 1) := by
  obtain ⟨hk, rfl⟩ := List.getElem?_eq_some_iff.1 h
  rw [← List.drop_eq_getElem_cons hk, List.take_append_drop]
set_option maxHeartbeats 4000000 in
set_option maxRecDepth 100000 in
theorem rread_ok {w : World} {base p B : Nat} {v : Value} {s : DS} {F : Int} (h : RDk w base p B v s F) (hlo : s.lo.length < 1000000) (q : Nat) (hq : q < s.bl.length) (hdn : s.down = false) :
    Calls Try.prog 62 #[dp p, .int .i64 (q : Int)] w (Ret w (.tuple #[bkv (lastOf' s.lo q (s.blk q)), .int .i64 0])) := by
  unfold bkv
  obtain ⟨W, hW⟩ : ∃ W, w.alloc (.cells (bvs zblk).toArray 40) = W := ⟨_, rfl⟩
  have hBW : Below w.heap.size w W := by rw [← hW]; exact (Below.refl _ _).alloc (Nat.le_refl _) _
  have bb : W.heap[w.heap.size]? = some (.cells (bvs zblk).toArray 40) := by rw [← hW]; exact heap_alloc_new _ _
  have hk := h.below hBW
  have hhas := rhas_any hk (q : Int)
  have hin : s.inB (q : Int) = true := DS.inB_iff.2 ⟨by omega, by omega⟩
  rw [hin] at hhas
  obtain ⟨A, c, hv, hv1, hv2⟩ := hk.form
  obtain ⟨hb0, c0, c1, c2, c3, c4, fr⟩ := hk.hds
  rw [hv] at c1
  rw [hdn] at c3
  have hok := hk.ok
  have hbq := hk.blkAt hq
  have HK := Lib.hid hk
  have HV := Lib.hid hv
  have hlen : s.lo.length ≤ maxLen := by omega
  have hql : (s.blk q).length = 128 := hok.blk q
  have hqi : (q : Int) < s.bl.length := by omega
  have wl : IntKind.i64.wrap ((s.lo.length : Int) - 1) = (s.lo.length : Int) - 1 := by rw [IntKind.wrap_i64]; omega
  clear hb0 c2 c4 hv hk h hin
  unfold dp at *
  go_enter Try.func62, Try.ntmps62
  go_wp2_with (first | (refine wpList_new rfl blkZ rfl ?_) | fail)
  clear hW
  refine hhas.mono ?_
  rintro e w' ⟨rfl, rfl⟩
  go_wp2_with fail
  go_loopw [6] (fun i wr => ∃ k : Nat, i = .int .i64 ((k : Int) - 1) ∧ k ≤ s.lo.length ∧ (∀ x ∈ s.lo.drop k, x.1 ≠ q) ∧ wr = W) (fun i _ => (intOf i + 1).toNat)
  case atStart => exact ⟨s.lo.length, rfl, Nat.le_refl _, by simp, rfl⟩
  case round =>
    obtain ⟨k, rfl, hk, hsuf, rfl⟩ := hrel
    cases k with
    | zero =>
      have hz : Hid (lastOf' s.lo q (s.blk q) = s.blk q) := Lib.hid (lastOf_none _ (by simpa using hsuf))
      rw [show ((0 : Nat) : Int) - 1 = -1 from rfl]
      generalize s.blk q = R at *
      go_wp2_with (first
        | (refine wpList_load_mid rfl 40 (.tmp 50) rfl B (q * 128) rfl (bvs R) _ hbq Try.underlying40 rfl (bk_len hql) ?_)
        | (refine wpList_store_row rfl 40 (.tmp 4) (.tmp 51) rfl _ (bvs R).toArray rfl rfl _ (bvs zblk).toArray bb (bk_info hql) (blk_sizes zblk_len hql) (all_oneCell_toArray (oneCell_bvs _)) ?_)
        | fail)
      generalize hX : World.setRow _ _ _ = X
      have bX : X.heap[w.heap.size]? = some (.cells (bvs R).toArray 40) := by rw [← hX]; exact setRow_heap _ _ _ _ _ _ bb
      have hBX : Below w.heap.size w X := by rw [← hX]; exact bSetRow hBW (Nat.le_refl _) _
      clear hX
      have hld := run_loadVar_row (P := Try.prog) X _ _ 40 _ _ _ bX Try.underlying40 rfl (bk_info hql)
      refine bodyPost_ret (by simp [results, Try.results62, Act.put, asAddr, Result.andThen, hld]; try rfl) rfl ?_
      exact Ret.mk (by first | rfl | rw [hz.out]) hBX
    | succ m =>
      rw [show ((m + 1 : Nat) : Int) - 1 = (m : Int) from by omega]
      obtain ⟨x, hx⟩ : ∃ x, s.lo[m]? = some x := ⟨_, List.getElem?_eq_getElem (by omega)⟩
      obtain ⟨L, cap, hv3, hcap, hL, hrow⟩ := HK.out.loAt (k := m) (x := x) hx
      obtain ⟨rfl, rfl⟩ : A = some ⟨L, 0, none⟩ ∧ c = cap := by have e := HV.out.symm.trans hv3; simp only [Value.slice.injEq] at e; exact ⟨e.1, e.2.2⟩
      obtain ⟨ci, hd1⟩ := wcs_tail hrow
      have hx2 := (hok.lo x (List.mem_of_getElem? hx)).2
      have g1 : (m : Int) < s.lo.length := by omega
      have wm : IntKind.i64.wrap ((m : Int) - 1) = (m : Int) - 1 := by rw [IntKind.wrap_i64]; omega
      by_cases hxq : x.1 = q
      · have hz : Hid (lastOf' s.lo q (s.blk q) = x.2) := Lib.hid (by
          have h9 : lastOf' (s.lo.take m ++ (q, x.2) :: s.lo.drop (m + 1)) q (s.blk q) = x.2 := lastOf_hit (k := 0) _ _ hsuf
          rw [show ((q, x.2) : Nat × Blk) = x from by rw [← hxq], ← split_at hx] at h9
          exact h9)
        have g2 : (x.1 : Int) = (q : Int) := by omega
        clear hrow hv3 hx hsuf hbq
        rw [hxq] at ci
        obtain ⟨R, hR⟩ : ∃ r, x.2 = r := ⟨_, rfl⟩
        rw [hR] at hd1 hx2
        go_wp2_with (first
          | (refine wpList_load_mid rfl 40 (.tmp 43) rfl L (m * 129 + 1) rfl (bvs R) _ hd1 Try.underlying40 rfl (bk_len hx2) ?_)
          | (refine wpList_store_row rfl 40 (.tmp 4) (.tmp 44) rfl _ (bvs R).toArray rfl rfl _ (bvs zblk).toArray bb (bk_info hx2) (blk_sizes zblk_len hx2) (all_oneCell_toArray (oneCell_bvs _)) ?_)
          | fail)
        generalize hX : World.setRow _ _ _ = X
        have bX : X.heap[w.heap.size]? = some (.cells (bvs R).toArray 40) := by rw [← hX]; exact setRow_heap _ _ _ _ _ _ bb
        have hBX : Below w.heap.size w X := by rw [← hX]; exact bSetRow hBW (Nat.le_refl _) _
        clear hX
        have hld := run_loadVar_row (P := Try.prog) X _ _ 40 _ _ _ bX Try.underlying40 rfl (bk_info hx2)
        refine bodyPost_ret (by simp [results, Try.results62, Act.put, asAddr, Result.andThen, hld]; try rfl) rfl ?_
        exact Ret.mk (by first | rfl | rw [hz.out, hR]) hBX
      · have g2 : ((x.1 : Int) == (q : Int)) = false := by simp; omega
        have hs2 : Hid (∀ y ∈ s.lo.drop m, y.1 ≠ q) := Lib.hid (by
          obtain ⟨hm, hxe⟩ := List.getElem?_eq_some_iff.1 hx
          rw [List.drop_eq_getElem_cons hm, hxe]
          intro y hy
          rcases List.mem_cons.1 hy with rfl | hy
          · exact hxq
          · exact hsuf y hy)
        clear hrow hv3 hx hsuf hbq hd1
        go_wp2_with fail
        go_roundw
        case rel => exact ⟨m, by first | rfl | rw [wm], by omega, hs2.out, trivial⟩
        case measure => simp [intOf] <;> omega
theorem rread_any {w : World} {base p B : Nat} {v : Value} {s : DS} {F : Int} (h : RDk w base p B v s F) (hlo : s.lo.length < 1000000) (i : Int) :
    Calls Try.prog 62 #[dp p, .int .i64 i] w (Ret w (.tuple #[bkv (s.read i), .int .i64 (s.readE i)])) := by
  cases hin : s.inB i
  · exact rread_bad h i (.inl hin)
  · cases hdn : s.down
    · have hi := DS.inB_iff.1 hin
      obtain ⟨k, rfl⟩ : ∃ k : Nat, i = (k : Int) := ⟨i.toNat, by omega⟩
      have := rread_ok h hlo k (by omega) hdn
      have e1 : s.read k = lastOf' s.lo k (s.blk k) := by simp [DS.read, hin, hdn]
      have e2 : s.readE k = 0 := by simp [DS.readE, hin, hdn]
      rw [e1, e2]; exact this
    · exact rread_bad h i (.inr hdn)
end Go.Proofs.Ytnkdbkgihemjnaa
