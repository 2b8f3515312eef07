/- slices.Index and slices.Contains at ints; the walk over leaf.Root. (s7/lfroot.py writes it.) -/
import Derived.Test.YthmjkgpfnpdddaaLfKeep
import Derived.Test.YthmjkgpfnpdddaaLfBack
import Derived.Test.YthmjkgpfnpdddaaLfSeal
namespace Go.Proofs.Ythmjkgpfnpdddaa
set_option linter.unusedSimpArgs false
set_option linter.unusedVariables false
open Go.RowKit Go.ChangeShapes Go.WideShapes Go.Sort

theorem mem_of_at {l : List Int} {v : Int} {k : Nat} (h : l[k]? = some v) : v ∈ l := List.mem_of_getElem? h
theorem not_mem_of {l : List Int} {v : Int} {n : Nat} (hl : l.length = n) (h : ∀ j : Nat, j < n → l[j]? ≠ some v) : ¬ v ∈ l := by
  intro hm
  obtain ⟨j, hj, e⟩ := List.getElem_of_mem hm
  exact h j (by omega) (by rw [List.getElem?_eq_getElem hj, e])
set_option maxRecDepth 100000 in
theorem index_any {A : Option Addr} {n c B : Nat} {l : List Int} (v : Int) (w : World) (h : IvAt w B A n c l) (hB : B ≤ w.heap.size) (hn : n ≤ 1000000) :
    Calls Try.prog 60 #[.slice A n c, .int .i64 v] w fun e w' => ∃ r : Int, e = .returned (.int .i64 r) ∧ (0 ≤ r ↔ v ∈ l) ∧ w = w' := by
  have hln := h.len
  have HL := Lib.hid hln
  have HH := Lib.hid h
  clear h hln
  go_enter Try.func60, Try.ntmps60
  go_wp2_with fail
  go_loopw [8] (fun i wr => ∃ k : Nat, k ≤ n ∧ i = .int .i64 k ∧ wr = w ∧ ∀ j : Nat, j < k → l[j]? ≠ some v) (fun i _ => n - (intOf i).toNat)
  case atStart => exact ⟨0, by omega, rfl, rfl, fun j hj => absurd hj (by omega)⟩
  case round =>
    obtain ⟨k, hk, rfl, rfl, hne⟩ := hrel
    by_cases hlt : k < n
    · obtain ⟨x, hx⟩ : ∃ x, l[k]? = some x := ⟨_, List.getElem?_eq_getElem (by rw [HL.out]; exact hlt)⟩
      obtain ⟨b, o, rfl, hbB, hxr⟩ := HH.out.entry hx
      have hi1 : (k : Int) < (n : Int) := by omega
      have HX := Lib.hid (And.intro hx hne)
      clear hx hne
      by_cases hxv : v = x
      · subst hxv
        go_wp2_with fail
        go_ret
        exact ⟨k, rfl, iff_of_true (by omega) (mem_of_at HX.out.1), by trivial⟩
      · have HV := Lib.hid hxv
        go_wp2_with fail
        go_roundw
        case rel => exact ⟨k + 1, by omega, by go_num, by trivial, fun j hj => by
          rcases Nat.lt_or_ge j k with h | h
          · exact HX.out.2 j h
          · obtain rfl : j = k := by omega
            rw [HX.out.1]
            intro e
            injection e with e
            exact HV.out e.symm⟩
        case measure => simp [intOf]; omega
    · obtain rfl : k = n := by omega
      have hi1 : ¬ (k : Int) < (k : Int) := by omega
      have HX := Lib.hid hne
      clear hne
      go_wp2_with fail
      go_ret
      exact ⟨-1, rfl, iff_of_false (by omega) (not_mem_of HL.out HX.out), rfl⟩
theorem contains_any {A : Option Addr} {n c B : Nat} {l : List Int} (v : Int) (w : World) (h : IvAt w B A n c l) (hB : B ≤ w.heap.size) (hn : n ≤ 1000000) :
    Calls Try.prog 47 #[.slice A n c, .int .i64 v] w fun e w' => e = .returned (.bool (decide (v ∈ l))) ∧ w = w' := by
  have H := index_any v w h hB hn
  clear h
  go_enter Try.func47, Try.ntmps47
  go_wp2_with fail
  refine Calls.mono H ?_
  rintro e w' ⟨r, rfl, hr, rfl⟩
  have HR := Lib.hid hr
  clear hr H
  go_wp2_with fail
  go_ret
  exact ⟨ret_bool (decide_eq_decide.2 HR.out), rfl⟩
/-- a beginning of ints in memory -/
theorem IvAt.cut {w : World} {B : Nat} {A : Option Addr} {n c : Nat} {l : List Int} (h : IvAt w B A n c l) {k : Nat} (hk : k ≤ n) (c' : Nat) (hc : k ≤ c') : IvAt w B A k c' (l.take k) := by
  have hl := h.len
  refine ⟨fun x hx => h.wide x (List.mem_of_mem_take hx), by rw [List.length_take]; omega, ?_, hc⟩
  refine ⟨by rw [ivs_len, List.length_take]; omega, fun h0 => ?_⟩
  obtain ⟨b, o, e, hb, hr⟩ := h.sl.at_ (by omega)
  refine ⟨b, o, e, hb, fun j v hj => hr j v ?_⟩
  rw [ivs, List.map_take] at hj
  rw [List.getElem?_take] at hj
  split at hj
  · exact hj
  · cases hj
/-- a root's bytes, as far as k -/
def rtTo (n : Nat) (l : List Int) (k : Nat) : List UInt8 := [82, u8 (n : Int)] ++ (l.take k).map u8
theorem rtTo_zero (n : Nat) (l : List Int) : rtTo n l 0 = [82, u8 (n : Int)] := by simp [rtTo]
theorem rtTo_succ {n : Nat} {l : List Int} {k : Nat} {x : Int} (h : l[k]? = some x) : rtTo n l (k + 1) = rtTo n l k ++ [u8 x] := by
  obtain ⟨hk, rfl⟩ := List.getElem?_eq_some_iff.1 h
  unfold rtTo
  rw [List.take_succ_eq_append_getElem hk, List.map_append, ← List.append_assoc]
  rfl
theorem rtTo_all {n : Nat} {l : List Int} (h : l.length = n) : rtTo n l n = rtB l := by unfold rtTo rtB; rw [← h, List.take_length]
theorem okR_zero (l : List Int) : okR l 0 := fun j hj => absurd hj (by omega)
theorem okR_succ {l : List Int} {k : Nat} {x : Int} (h : okR l k) (hx : l[k]? = some x) (h1 : 2 ≤ x) (h2 : x < 128) (h3 : ¬ x ∈ l.take k) : okR l (k + 1) := by
  intro j hj
  rcases Nat.lt_or_ge j k with h' | h'
  · exact h j h'
  · obtain rfl : j = k := by omega
    refine ⟨x, hx, h1, h2, fun i hi e => h3 ?_⟩
    refine List.mem_of_getElem? (i := i) ?_
    rw [List.getElem?_take, if_pos hi, e]
theorem not_goodR {l : List Int} {k : Nat} {x : Int} (hx : l[k]? = some x) (h : x < 2 ∨ 128 ≤ x ∨ x ∈ l.take k) : goodR l = false := by
  cases hg : goodR l
  · rfl
  · obtain ⟨-, ho⟩ := goodR_iff.1 hg
    obtain ⟨z, ez, h1, h2, h3⟩ := ho k (List.getElem?_eq_some_iff.1 hx).1
    rw [hx] at ez
    injection ez with ez
    rcases h with h | h | h
    · omega
    · omega
    · obtain ⟨i, hi, e⟩ := List.getElem_of_mem h
      rw [List.length_take] at hi
      rw [List.getElem_take] at e
      exact absurd (by rw [List.getElem?_eq_getElem (by omega), e, ez]) (h3 i (by omega))
theorem len_not {l : List Int} {n : Nat} (hl : l.length = n) (h : n < 1 ∨ 100 < n) : goodR l = false := by
  cases hg : goodR l
  · rfl
  · have := (goodR_iff.1 hg).1
    omega
attribute [-go_sem] Builtin.append_
set_option maxHeartbeats 16000000 in
set_option maxRecDepth 100000 in
theorem root_any {A : Option Addr} {n c : Nat} {l : List Int} (w : World) (h : IvAt w w.heap.size A n c l) (hn6 : n ≤ 1000000) : Calls Try.prog 28 #[.slice A n c] w (Ret w (.tuple #[bkv (rtEnc l), .int .i64 (erE (goodR l))])) := by
  have HS := Lib.hid h
  have HN := Lib.hid h.len
  clear h
  unfold bkv
  go_enter Try.func28, Try.ntmps28
  obtain ⟨zb, hzb⟩ : ∃ q, (bvs zblk).toArray = q := ⟨_, rfl⟩
  have hbz := blkZ
  have hb0 := built_blk0
  have hzs : zb.size = 128 := by rw [← hzb, List.size_toArray, bvs_len, zblk_len]
  have hzi : (Try.prog.info? 40).map (·.size) = some zb.size := by rw [hzs]; exact bk_size
  have hz1 : (zb.all fun x => x.oneCell') = true := by rw [← hzb]; exact all_oneCell_toArray (oneCell_bvs _)
  rw [hzb] at hbz hb0
  have HZ := Lib.hid hzb
  clear hzb
  go_upto_region 1 with (first | (refine wpList_new rfl hbz rfl ?_) | fail)
  obtain ⟨V, hV⟩ : ∃ q, w.alloc (.cells zb 40) = q := ⟨_, rfl⟩
  have a2 : V.heap[w.heap.size]? = some (.cells zb 40) := by rw [← hV]; exact heap_alloc_new _ _
  have hB : Below w.heap.size w V := by rw [← hV]; exact (Below.refl _ _).alloc (Nat.le_refl _) _
  try rw [hV]
  clear hV
  have l2 := (Array.getElem?_eq_some_iff.1 a2).1
  have hl := HS.out.nxt hB
  by_cases hrng : n < 1
  · have hng : goodR l = false := len_not HN.out (.inl hrng)
    have HE := Lib.hid (And.intro hng hB)
    have q1 : (n : Int) < 1 := by omega
    clear hng hB hl
    go_wp2_with (first
      | (refine wpList_built rfl 40 #[] rfl (cs := zb) (by simp only [List.map_toArray, List.map_nil]; exact hb0) ?_)
      | (refine wpList_store_row rfl 40 (.tmp 2) (.tmp 15) rfl _ zb rfl rfl _ zb a2 hzi rfl hz1 ?_)
      | fail)
    generalize hX : World.setRow _ _ _ = X9
    have b9 : X9.heap[w.heap.size]? = some (.cells zb 40) := by rw [← hX]; exact setRow_heap _ _ _ _ _ _ a2
    have hBX : Below w.heap.size w X9 := by rw [← hX]; exact bSetRow HE.out.2 (Nat.le_refl _) _
    clear hX
    have hld := run_loadVar_row (P := Try.prog) X9 _ _ 40 _ _ _ b9 Try.underlying40 rfl hzi
    refine bodyPost_ret (by simp [results, Try.results28, Act.put, asAddr, Result.andThen, hld]; try rfl) rfl ?_
    exact Ret.mk (by rw [rtEnc, HE.out.1, if_neg Bool.false_ne_true, HZ.out]; rfl) hBX
  · by_cases hrng2 : 100 < n
    · have hng : goodR l = false := len_not HN.out (.inr hrng2)
      have HE := Lib.hid (And.intro hng hB)
      have q1 : ¬ (n : Int) < 1 := by omega
      have q2 : (100 : Int) < (n : Int) := by omega
      clear hng hB hl
      go_wp2_with (first
        | (refine wpList_built rfl 40 #[] rfl (cs := zb) (by simp only [List.map_toArray, List.map_nil]; exact hb0) ?_)
        | (refine wpList_store_row rfl 40 (.tmp 2) (.tmp 15) rfl _ zb rfl rfl _ zb a2 hzi rfl hz1 ?_)
        | fail)
      generalize hX : World.setRow _ _ _ = X9
      have b9 : X9.heap[w.heap.size]? = some (.cells zb 40) := by rw [← hX]; exact setRow_heap _ _ _ _ _ _ a2
      have hBX : Below w.heap.size w X9 := by rw [← hX]; exact bSetRow HE.out.2 (Nat.le_refl _) _
      clear hX
      have hld := run_loadVar_row (P := Try.prog) X9 _ _ 40 _ _ _ b9 Try.underlying40 rfl hzi
      refine bodyPost_ret (by simp [results, Try.results28, Act.put, asAddr, Result.andThen, hld]; try rfl) rfl ?_
      exact Ret.mk (by rw [rtEnc, HE.out.1, if_neg Bool.false_ne_true, HZ.out]; rfl) hBX
    · have q1 : ¬ (n : Int) < 1 := by omega
      have q2 : ¬ (100 : Int) < (n : Int) := by omega
      have hoc : (bvs [82, u8 (n : Int)]).toArray = #[Value.int .u8 82, .int .u8 (n : Int)] := by
        simp only [bvs, List.map_cons, List.map_nil, bv_u8]
        rw [Int.emod_eq_of_lt (by omega) (by omega)]
        rfl
      have H1 := Lib.hid (And.intro a2 (And.intro hB hl))
      clear a2 hB hl
      go_upto_region 4 with (fail)
      obtain ⟨W1, hW1⟩ : ∃ q, V.alloc (.cells (bvs [82, u8 (n : Int)]).toArray 5) = q := ⟨_, rfl⟩
      have b1 : W1.heap[V.heap.size]? = some (.cells (bvs [82, u8 (n : Int)]).toArray 5) := by rw [← hW1]; exact heap_alloc_new _ _
      have hbW1 : Below V.heap.size V W1 := by rw [← hW1]; exact (Below.refl _ _).alloc (Nat.le_refl _) _
      rw [hoc] at hW1
      try rw [hW1]
      have own0 := own_lit (W := W1) (base := V.heap.size) (n := 2) (cs := bvs [82, u8 (n : Int)]) (t := 5) (Nat.le_refl _) b1 (by rw [bvs_len]; rfl) (by simp [maxLen])
      clear hW1 b1 hoc
      go_wp2_with fail
      go_loopw [4, 22] (fun sb si wr => ∃ k : Nat, k ≤ n ∧ si = .int .i64 k ∧ wr.ownsRow V.heap.size 5 1 sb (2 + k) (bvs (rtTo n l k)) ∧ Below V.heap.size V wr ∧ okR l k) (fun _ i _ => n - (intOf i).toNat)
      case atStart => exact ⟨0, by omega, rfl, by rw [rtTo_zero]; exact own0, hbW1, okR_zero l⟩
      case round =>
        clear own0 hbW1
        obtain ⟨k, hk, rfl, hown, hbr, hokr⟩ := hrel
        obtain ⟨A4, c4, rfl, -⟩ := own_form hown
        by_cases hlt : k < n
        · obtain ⟨x, hx⟩ : ∃ x, l[k]? = some x := ⟨_, List.getElem?_eq_getElem (by rw [HN.out]; exact hlt)⟩
          obtain ⟨b, o, rfl, hbB, hxr⟩ := H1.out.2.2.entry hx
          have hcap := H1.out.2.2.cap
          have hzr := hbr.size
          have a2 := bBlk hbr l2 H1.out.1
          have hB := bNext H1.out.2.1 hbr
          replace hxr := (hbr.cell (p := ⟨b, o + k, none⟩) hbB).trans hxr
          have hi1 : (k : Int) < (n : Int) := by omega
          have hi2 : (k : Int) ≤ (c : Int) := by omega
          by_cases g1 : x < 2
          · have hng := not_goodR hx (.inl g1)
            have HE := Lib.hid (And.intro hng hB)
            clear hng hB hown hx
            go_wp2_with (first
              | (refine wpList_built rfl 40 #[] rfl (cs := zb) (by simp only [List.map_toArray, List.map_nil]; exact hb0) ?_)
              | (refine wpList_store_row rfl 40 (.tmp 2) (.tmp 40) rfl _ zb rfl rfl _ zb a2 hzi rfl hz1 ?_)
              | fail)
            generalize hX : World.setRow _ _ _ = X9
            have b9 : X9.heap[w.heap.size]? = some (.cells zb 40) := by rw [← hX]; exact setRow_heap _ _ _ _ _ _ a2
            have hBX : Below w.heap.size w X9 := by rw [← hX]; exact bSetRow HE.out.2 (Nat.le_refl _) _
            clear hX
            have hld := run_loadVar_row (P := Try.prog) X9 _ _ 40 _ _ _ b9 Try.underlying40 rfl hzi
            refine bodyPost_ret (by simp [results, Try.results28, Act.put, asAddr, Result.andThen, hld]; try rfl) rfl ?_
            exact Ret.mk (by rw [rtEnc, HE.out.1, if_neg Bool.false_ne_true, HZ.out]; rfl) hBX
          · by_cases g2 : 128 ≤ x
            · have hng := not_goodR hx (.inr (.inl g2))
              have HE := Lib.hid (And.intro hng hB)
              clear hng hB hown hx
              go_wp2_with (first
                | (refine wpList_built rfl 40 #[] rfl (cs := zb) (by simp only [List.map_toArray, List.map_nil]; exact hb0) ?_)
                | (refine wpList_store_row rfl 40 (.tmp 2) (.tmp 40) rfl _ zb rfl rfl _ zb a2 hzi rfl hz1 ?_)
                | fail)
              generalize hX : World.setRow _ _ _ = X9
              have b9 : X9.heap[w.heap.size]? = some (.cells zb 40) := by rw [← hX]; exact setRow_heap _ _ _ _ _ _ a2
              have hBX : Below w.heap.size w X9 := by rw [← hX]; exact bSetRow HE.out.2 (Nat.le_refl _) _
              clear hX
              have hld := run_loadVar_row (P := Try.prog) X9 _ _ 40 _ _ _ b9 Try.underlying40 rfl hzi
              refine bodyPost_ret (by simp [results, Try.results28, Act.put, asAddr, Result.andThen, hld]; try rfl) rfl ?_
              exact Ret.mk (by rw [rtEnc, HE.out.1, if_neg Bool.false_ne_true, HZ.out]; rfl) hBX
            · have g2' : ¬ (128 : Int) ≤ x := g2
              have hcn := contains_any x wr ((H1.out.2.2.below hbr).cut (k := k) (by omega) c (by omega)) (by omega) (by omega)
              obtain ⟨q, hq⟩ : ∃ q, decide (x ∈ l.take k) = q := ⟨_, rfl⟩
              rw [hq] at hcn
              have HX := Lib.hid (And.intro hx (And.intro hq (And.intro hokr (And.intro hbr (And.intro hown hB)))))
              clear hx hq hokr hbr hown hB
              go_upto_region 7 with (fail)
              go_wp2_with fail
              refine Calls.mono hcn ?_
              rintro e w' ⟨rfl, rfl⟩
              clear hcn
              obtain ⟨hx, hq, hokr, hbr, hown, hB⟩ := HX.out
              cases q
              · have hs := rtTo_succ (n := n) hx
                have ho := okR_succ hokr hx (by omega) (by omega) (of_decide_eq_false hq)
                have HY := Lib.hid (And.intro hs (And.intro ho hbr))
                clear hx hq hokr hB HX hs ho a2
                have hxo : (bvs [u8 x]).toArray = #[Value.int .u8 x] := by
                  simp only [bvs, List.map_cons, List.map_nil, bv_u8]
                  rw [Int.emod_eq_of_lt (by omega) (by omega)]
                have hsx : Sl (wr.alloc (.cells #[Value.int .u8 x] 5)) (wr.alloc (.cells #[Value.int .u8 x] 5)).heap.size 1 (some ⟨wr.heap.size, 0, none⟩) 1 (bvs [u8 x]) := by
                  have := Sl.new (sz := 1) (n := 1) (heap_alloc_new wr (.cells #[Value.int .u8 x] 5)) rfl
                  rw [← hxo] at this
                  rw [← hxo]
                  exact this
                clear hxr hxo
                go_wp2_with (first
                  | (at_builtin; go_loud (refine wpList_app _ rfl (.tmp 41) (.tmp 44) 22 rfl (base := V.heap.size) Try.underlying22 elemC rfl (hown.alloc _) rfl hsx (oneCell_bvs _) (by simp only [maxLen]; omega) (by omega) (by simp; omega) ?_; intro A41 c41 w41 hown4 hg4 hb4 hat4))
                  | fail)
                refine ⟨⟨k + 1, by omega, by go_num, ?_, (HY.out.2.2.alloc hzr _).trans hb4, HY.out.2.1⟩, by simp [intOf]; omega⟩
                rw [HY.out.1, bvs_append, show 2 + (k + 1) = 2 + k + 1 by omega]
                exact hown4
              · have hng := not_goodR hx (.inr (.inr (of_decide_eq_true hq)))
                have HE := Lib.hid (And.intro hng hB)
                clear hng hB hown hx hokr hbr hq HX
                go_wp2_with (first
                  | (refine wpList_built rfl 40 #[] rfl (cs := zb) (by simp only [List.map_toArray, List.map_nil]; exact hb0) ?_)
                  | (refine wpList_store_row rfl 40 (.tmp 2) (.tmp 40) rfl _ zb rfl rfl _ zb a2 hzi rfl hz1 ?_)
                  | fail)
                generalize hX : World.setRow _ _ _ = X9
                have b9 : X9.heap[w.heap.size]? = some (.cells zb 40) := by rw [← hX]; exact setRow_heap _ _ _ _ _ _ a2
                have hBX : Below w.heap.size w X9 := by rw [← hX]; exact bSetRow HE.out.2 (Nat.le_refl _) _
                clear hX
                have hld := run_loadVar_row (P := Try.prog) X9 _ _ 40 _ _ _ b9 Try.underlying40 rfl hzi
                refine bodyPost_ret (by simp [results, Try.results28, Act.put, asAddr, Result.andThen, hld]; try rfl) rfl ?_
                exact Ret.mk (by rw [rtEnc, HE.out.1, if_neg Bool.false_ne_true, HZ.out]; rfl) hBX
        · obtain rfl : k = n := by omega
          have hi1 : ¬ (k : Int) < (k : Int) := by omega
          rw [rtTo_all HN.out] at hown
          have hgd : goodR l = true := goodR_iff.2 ⟨by rw [HN.out]; omega, by rw [HN.out]; exact hokr⟩
          have hbl : (rtB l).length = 2 + k := by rw [rtB_len, HN.out]
          obtain ⟨m, hm⟩ : ∃ m, 2 + k = m := ⟨_, rfl⟩
          have hm124 : m ≤ 124 := by omega
          rw [hm] at hown hbl
          rw [hm]
          have hsl := sealed_any (c := c4) wr (Sl.of_own hown) hbl hm124
          have a2 := bBlk hbr l2 H1.out.1
          have hB := bNext H1.out.2.1 hbr
          have l4 := (Array.getElem?_eq_some_iff.1 a2).1
          have e1 : rtEnc l = sealB (rtB l) := by unfold rtEnc; rw [hgd, if_pos rfl]
          have e2 : (sealB (rtB l)).length = 128 := sealB_len (by rw [hbl]; exact hm124)
          unfold bkv at hsl
          obtain ⟨P, hP⟩ : ∃ q, sealB (rtB l) = q := ⟨_, rfl⟩
          rw [hP] at hsl e1 e2
          have HE := Lib.hid (And.intro e1 (And.intro hB (And.intro a2 hgd)))
          have hpi := bk_info e2
          have hps : (bvs P).toArray.size = zb.size := by rw [List.size_toArray, bvs_len, e2, hzs]
          have hp1 := oneCell_bvs P
          clear hown hbr hbl hm hB a2 e1 hP hm124 hgd hokr
          go_upto_region 11 with (fail)
          go_wp2_with fail
          refine Calls.mono hsl ?_
          rintro e Z ⟨rfl, hbZ⟩
          clear hsl
          have a2 := bBlk hbZ l4 HE.out.2.2.1
          have hB := bNext HE.out.2.1 hbZ
          have HB := Lib.hid hB
          clear hB hbZ
          obtain ⟨cs, hcs⟩ : ∃ q, (bvs P).toArray = q := ⟨_, rfl⟩
          rw [hcs] at hpi hps
          have hp2 := all_oneCell_toArray hp1
          rw [hcs] at hp2
          rw [hcs]
          have HCS := Lib.hid hcs
          clear hcs hp1
          go_wp2_with (first
            | (refine wpList_store_row rfl 40 (.tmp 2) (.tmp 48) rfl _ cs rfl rfl _ zb a2 hpi hps.symm hp2 ?_)
            | fail)
          generalize hX : World.setRow _ _ _ = X9
          have b9 : X9.heap[w.heap.size]? = some (.cells cs 40) := by rw [← hX]; exact setRow_heap _ _ _ _ _ _ a2
          have hBX : Below w.heap.size w X9 := by rw [← hX]; exact bSetRow HB.out (Nat.le_refl _) _
          clear hX
          have hld := run_loadVar_row (P := Try.prog) X9 _ _ 40 _ _ _ b9 Try.underlying40 rfl hpi
          refine bodyPost_ret (by simp [results, Try.results28, Act.put, asAddr, Result.andThen, hld]; try rfl) rfl ?_
          exact Ret.mk (by rw [HE.out.1, HE.out.2.2.2, HCS.out]; rfl) hBX
end Go.Proofs.Ythmjkgpfnpdddaa
