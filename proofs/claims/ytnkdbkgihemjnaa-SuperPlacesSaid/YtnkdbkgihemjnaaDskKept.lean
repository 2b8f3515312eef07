/- disk.kept: the loose writes that are kept, one by one, with their places: the iterator's contract. -/
import Derived.Test.YtnkdbkgihemjnaaDskRead
namespace Go.Proofs.Ytnkdbkgihemjnaa
set_option linter.unusedSimpArgs false
set_option linter.unusedVariables false
open Go.RowKit Go.Shelf
attribute [local go_sem] Oper.semAt_some

theorem kept_any (p : Nat) (KA : Option Addr) (n kc : Nat) (w : World) :
    Calls Try.prog 59 #[dp p, .slice KA n kc] w fun e w' =>
      e = .returned (.func (.func 77) #[] #[.pointer (some ⟨w.heap.size, 0, none⟩), .pointer (some ⟨w.heap.size + 1, 0, none⟩)]) ∧
      (w.alloc (.cells #[dp p] 25)).alloc (.cells #[.slice KA n kc] 41) = w' := by
  unfold dp
  go_enter Try.func59, Try.ntmps59
  go_wp2
  go_ret
  exact ⟨rfl, rfl⟩

/-- what the iterator reads: the slice of the loose writes, and these -/
structure DL (w : World) (base p : Nat) (v : Value) (lo : List (Nat × Blk)) : Prop where
  c1 : w.cell? ⟨p, 1, none⟩ = some v
  row : w.ownsRow base 112 129 v lo.length (lcs lo)
  ok : ∀ x ∈ lo, x.2.length = 128
def OwnL (p : Nat) (v : Value) (k : Nat) : Prop := k = p ∨ v.ownBlock = some k
theorem Dk.dl {w : World} {base p B : Nat} {v : Value} {s : DS} (h : Dk w base p B v s) : DL w base p v s.lo := ⟨h.hds.c1, h.lo, fun x hx => (h.ok.lo x hx).2⟩
theorem DL.hold {w w' : World} {base p : Nat} {v : Value} {lo : List (Nat × Blk)} (h : DL w base p v lo) (hh : ∀ k, OwnL p v k → w'.heap[k]? = w.heap[k]?) : DL w' base p v lo := by
  refine ⟨(World.cell?_of_block (a := ⟨p, 1, none⟩) (hh p (.inl rfl))).trans h.c1, ⟨h.row.1, ?_⟩, h.ok⟩
  rcases h.row.2 with e | ⟨g, cap, cur, e, h1, h2, h3⟩
  · exact .inl e
  · exact .inr ⟨g, cap, cur, e, h1, (hh g (.inr (by rw [e]; rfl))).trans h2, h3⟩
theorem DL.loAt {w : World} {base p : Nat} {v : Value} {lo : List (Nat × Blk)} (h : DL w base p v lo) {k : Nat} {x : Nat × Blk} (hk : lo[k]? = some x) :
    ∃ L cap, v = .slice (some ⟨L, 0, none⟩) lo.length cap ∧ lo.length ≤ cap ∧ L < w.heap.size ∧ w.rangeAt L (k * 129) (wcs x) := by
  have hlt : k < lo.length := (List.getElem?_eq_some_iff.1 hk).1
  rcases h.row.2 with ⟨_, e⟩ | ⟨g, cap, cur, e, h1, h2, h3, h4, h5, h6⟩
  · omega
  · refine ⟨g, cap, e, h3, (Array.getElem?_eq_some_iff.1 h2).1, ?_⟩
    have h0 : w.rangeAt g 0 (lcs lo) := fun j u hj => by
      rw [Nat.zero_add]
      refine blk_cell h2 ?_
      rw [← h6, List.getElem?_take] at hj
      split at hj
      · simpa using hj
      · cases hj
    have := range_cut h0 (k * 129) 129
    rwa [show ((lcs lo).drop (k * 129)).take 129 = wcs x from flat_part (fun y hy => by unfold wcs; rw [List.length_cons, bvs_len, h.ok y hy]) hk, Nat.zero_add] at this
def loAt (s : DS) (k : Nat) : Nat × Blk := s.lo[k]?.getD (0, [])
def kcs (s : DS) (k : Nat) : Array Value := #[.int .i64 k, .agg (wcs (s.lo[k]?.getD (0, []))).toArray]
def keptK (keep : List UInt8) (n : Nat) : List Nat := (List.range n).filter (keeps keep)
theorem keptK_succ (keep : List UInt8) (k : Nat) : keptK keep (k + 1) = keptK keep k ++ (if keeps keep k = true then [k] else []) := by
  unfold keptK
  rw [List.range_succ, List.filter_append]
  congr 1
  by_cases h : keeps keep k = true
  · simp [h]
  · simp [h]
theorem keptK_len (keep : List UInt8) (k : Nat) : (keptK keep k).length ≤ k := by
  have := List.length_filter_le (keeps keep) (List.range k)
  unfold keptK; simpa using this

set_option maxRecDepth 100000 in
set_option maxHeartbeats 4000000 in
theorem kept1_in (l D1 I1 : Nat) (keep : List UInt8) (KA : Option Addr) (kc : Nat) (hkl : keep.length ≤ 1000000) {base p : Nat} {v : Value} {s : DS} (X : Nat → Prop) (h1 : X D1) (h2 : X I1) (hX : ∀ k, OwnL p v k → X k) (hKX : ∀ b o, 0 < keep.length → KA = some ⟨b, o, none⟩ → X b) (hlo : s.lo.length < 1000000) (J Jx : List {k : Nat // k < s.lo.length} → World → Prop) (W : World)
    (hXW : ∀ k, X k → k < W.heap.size)
    (hJ : AbidesFrom W.heap.size J)
    (hY : ∀ pre x W, J pre W → pre.length < s.lo.length + 1 → YieldAt Fence.wide 9 Try.prog l (kcs s x.1) W fun e W' =>
      (e = .returned (.bool true) ∧ J (pre ++ [x]) W' ∧ Hold X W W') ∨ (e = .returned (.bool false) ∧ Jx (pre ++ [x]) W'))
    (hD1 : W.heap[D1]? = some (.cells #[dp p] 25)) (hI1 : W.heap[I1]? = some (.cells #[.slice KA keep.length kc] 41)) (hK : Sl W W.heap.size 1 KA keep.length (bvs keep)) (hD : DL W base p v s.lo) (h0 : J [] W) :
    CallsIn Fence.wide 10 Try.prog 77 #[.func (.yield l) #[] #[], .pointer (some ⟨D1, 0, none⟩), .pointer (some ⟨I1, 0, none⟩)] W fun e W' => (∃ v, e = .returned v) ∧
      ((∃ ys, ys.map Subtype.val = keptK keep s.lo.length ∧ J ys W') ∨ (∃ pre, True ∧ Jx pre W')) := by
  obtain ⟨A, c, hv, hv1, hv2⟩ := own_form hD.row
  have c1 := hD.c1
  rw [hv] at c1
  have d0 := blk_cell hD1 (k := 0) rfl
  have HV := Lib.hid hv
  unfold dp at d0
  have hlen : s.lo.length ≤ maxLen := by omega
  clear hv
  refine callsIn_of_wp Try.func77 rfl trivial ?_ rfl
  simp only [Try.ntmps77, List.size_toArray, List.length_cons, List.length_nil, Nat.reduceAdd, Nat.reduceSub, Array.replicate_succ, Array.replicate_zero, List.push_toArray, List.append_toArray, List.nil_append, List.cons_append]
  gi_wp2
  gi_loopw [4, 5, 11] (fun q4 q n wr => ∃ (k : Nat) (pre : List {k : Nat // k < s.lo.length}), n = .int .i64 k ∧ k ≤ s.lo.length ∧ pre.map Subtype.val = keptK keep k ∧ J pre wr ∧ Hold X W wr) (fun _ _ n _ => s.lo.length - (intOf n).toNat)
  case atStart => exact ⟨0, [], rfl, by omega, rfl, h0, Hold.refl _ _⟩
  case round =>
    clear c1 d0
    obtain ⟨k, pre, rfl, hk, hpre, hJk, hH⟩ := hrel
    have HPRE := Lib.hid hpre
    have hplen : pre.length ≤ k := by have := keptK_len keep k; rw [← hpre, List.length_map] at this; exact this
    clear hpre
    by_cases hlt : k < s.lo.length
    · obtain ⟨x, hx⟩ : ∃ x, s.lo[k]? = some x := ⟨_, List.getElem?_eq_getElem hlt⟩
      have hDr := hD.hold (fun j hj => hH.1 j (hX j hj))
      obtain ⟨L, cap, hv3, hcap, hL, hrow⟩ := hDr.loAt (k := k) (x := x) hx
      obtain ⟨rfl, rfl⟩ : A = some ⟨L, 0, none⟩ ∧ c = cap := by have e := HV.out.symm.trans hv3; simp only [Value.slice.injEq] at e; exact ⟨e.1, e.2.2⟩
      have hx2 := hD.ok x (List.mem_of_getElem? hx)
      have hnext := Lib.hid (keptK_succ keep k)
      have hxg : s.lo[k]?.getD (0, []) = x := by rw [hx]; rfl
      have g1 : (k : Int) < s.lo.length := by omega
      have hI1r := hH.blk h2 hI1
      have hI1w := hXW _ h2
      have hHs := hH.2
      clear hv3 hx hDr
      have hwl : (wcs x).length = 129 := by unfold wcs; rw [List.length_cons, bvs_len, hx2]
      have hwi : (Try.prog.info? 112).map (·.size) = some (wcs x).length := by rw [hwl]; kernel_rfl
      have hone : (wcs x).toArray.all (·.oneCell') = true := all_oneCell_toArray (fun u hu => one_lcs [x] u (by unfold lcs; rw [List.flatMap_cons, List.flatMap_nil, List.append_nil]; exact hu))
      obtain ⟨Y, hY'⟩ : ∃ Y, World.setRow (wr.alloc (.cells (Value.int .i64 0 :: bvs zblk).toArray 112)) wr.heap.size (wcs x).toArray = Y := ⟨_, rfl⟩
      have hBY : Below wr.heap.size wr Y := by rw [← hY']; exact bSetRow ((Below.refl _ _).alloc (Nat.le_refl _) _) (Nat.le_refl _) _
      have hYb : Y.heap[wr.heap.size]? = some (.cells (wcs x).toArray 112) := by rw [← hY']; exact setRow_heap _ _ _ _ _ _ (heap_alloc_new _ _)
      have hJ2 := hJ _ _ _ none hJk (grown_of_below hBY) (fun r e => by cases e)
      have hH2 := hH.trans (Hold.of_below hBY (fun j hj => by have := hXW j hj; omega))
      have hd1 : Y.rangeAt wr.heap.size 0 (wcs x) := fun j u hj => by rw [Nat.zero_add]; exact blk_cell hYb (by simpa using hj)
      have hd2 := blk_cell (bBlk hBY (by omega) hI1r) (k := 0) rfl
      have hKr : Sl Y Y.heap.size 1 KA keep.length (bvs keep) := by
        refine ⟨hK.len, fun h0' => ?_⟩
        obtain ⟨b, o, e, hbl, hr⟩ := hK.at_ h0'
        have hXb := hKX b o h0' e
        refine ⟨b, o, e, by have := hBY.size; omega, fun j u hj => ?_⟩
        exact (World.cell?_of_block (a := ⟨b, o + j, none⟩) ((hBY.block b (by omega)).trans (hH.1 b hXb))).trans (hr j u hj)
      have hh31 : (k : Int) ≤ 1000000 := by omega
      clear hBY hYb
      by_cases hkl2 : k < keep.length
      · have g2 : (k : Int) < keep.length := by omega
        obtain ⟨kb, ko, rfl, hkb, hkr⟩ := hKr.at_ (by omega)
        have hkc : Y.cell? ⟨kb, ko + k, none⟩ = some (bv keep[k]) := hkr k _ (by unfold bvs; rw [List.getElem?_map, List.getElem?_eq_getElem hkl2]; rfl)
        unfold bv at hkc
        have hlt8 := (keep[k]).toNat_lt
        have hks : keeps keep k = (keep[k].toNat % 2 == 1) := by unfold keeps; rw [List.getElem?_eq_getElem hkl2]
        generalize hkn : keep[k].toNat = kn at *
        clear hkn hkr hKr
        rcases Nat.mod_two_eq_zero_or_one kn with hm | hm
        · have ht : Int.tmod (kn : Int) 2 = 0 := by rw [Int.tmod_eq_emod_of_nonneg (by omega)]; omega
          rw [hks, hm] at hnext
          simp only [Nat.reduceBEq, Bool.false_eq_true, if_false, List.append_nil] at hnext
          clear hI1r hD hD1 hI1 hK hks hm
          gi_wp2_with (first
            | (refine wpListIn_val rfl (fun c e => by cases e) rfl (exec_load_row (x := .tmp 14) rfl rfl hrow Try.underlying112 rfl hwi) ?_)
            | (refine wpListIn_val rfl (fun c e => by cases e) rfl (exec_new wrZ rfl _) ?_)
            | (refine wpListIn_skip rfl (fun c e => by cases e) rfl (exec_store_row (x := .tmp 5) (y := .tmp 15) rfl rfl rfl (heap_alloc_new _ _) (by rw [List.size_toArray]; exact hwi) (by rw [wrZ_size, List.size_toArray, hwl]) hone) ?_)
            | fail)
          refine ⟨fun _ _ => trivial, ?_⟩
          gi_wp2
          go_roundw
          case rel => exact ⟨k + 1, pre, by go_num, by omega, by rw [hnext.out]; exact HPRE.out, hJ2, hH2⟩
          case measure => simp [intOf]; omega
        · have ht : Int.tmod (kn : Int) 2 = 1 := by rw [Int.tmod_eq_emod_of_nonneg (by omega)]; omega
          rw [hks, hm] at hnext
          simp only [beq_self_eq_true, if_true] at hnext
          obtain ⟨fn, tmps, assign, body, hy, hR⟩ := hY pre ⟨k, hlt⟩ Y hJ2 (by omega)
          simp only [kcs, hxg] at hy
          clear hI1r hD hD1 hI1 hK hks hm
          gi_wp2_with (first
            | (refine wpListIn_val rfl (fun c e => by cases e) rfl (exec_load_row (x := .tmp 14) rfl rfl hrow Try.underlying112 rfl hwi) ?_)
            | (refine wpListIn_val rfl (fun c e => by cases e) rfl (exec_new wrZ rfl _) ?_)
            | (refine wpListIn_skip rfl (fun c e => by cases e) rfl (exec_store_row (x := .tmp 5) (y := .tmp 15) rfl rfl rfl (heap_alloc_new _ _) (by rw [List.size_toArray]; exact hwi) (by rw [wrZ_size, List.size_toArray, hwl]) hone) ?_)
            | (refine wpListIn_val (by simp [Region.wanted, yielded, Act.put]) (fun c e => by cases e) rfl (exec_load_row (x := .tmp 5) rfl rfl hd1 Try.underlying112 rfl hwi) ?_)
            | fail)
          gi_wp2
          refine hR.mono ?_
          rintro e W3 (⟨rfl, hJ3, hk3⟩ | ⟨rfl, hJx3⟩)
          · gi_wp2
            go_roundw
            case rel => exact ⟨k + 1, pre ++ [⟨k, hlt⟩], by go_num, by omega, by rw [hnext.out, List.map_append, HPRE.out]; rfl, hJ3, hH2.trans hk3⟩
            case measure => simp [intOf]; omega
          · gi_wp2
            refine bodyPost_ret (results_none rfl _ _ _) rfl ?_
            exact ⟨⟨_, rfl⟩, .inr ⟨_, trivial, hJx3⟩⟩
      · have g2 : ¬ (k : Int) < keep.length := by omega
        have hks : keeps keep k = false := by unfold keeps; rw [List.getElem?_eq_none (by omega)]
        rw [hks] at hnext
        simp only [Bool.false_eq_true, if_false, List.append_nil] at hnext
        clear hI1r hD hD1 hI1 hK hks hKr
        gi_wp2_with (first
          | (refine wpListIn_val rfl (fun c e => by cases e) rfl (exec_load_row (x := .tmp 14) rfl rfl hrow Try.underlying112 rfl hwi) ?_)
          | (refine wpListIn_val rfl (fun c e => by cases e) rfl (exec_new wrZ rfl _) ?_)
          | (refine wpListIn_skip rfl (fun c e => by cases e) rfl (exec_store_row (x := .tmp 5) (y := .tmp 15) rfl rfl rfl (heap_alloc_new _ _) (by rw [List.size_toArray]; exact hwi) (by rw [wrZ_size, List.size_toArray, hwl]) hone) ?_)
          | fail)
        refine ⟨fun _ _ => trivial, ?_⟩
        gi_wp2
        go_roundw
        case rel => exact ⟨k + 1, pre, by go_num, by omega, by rw [hnext.out]; exact HPRE.out, hJ2, hH2⟩
        case measure => simp [intOf]; omega
    · obtain rfl : k = s.lo.length := by omega
      have hpre := HPRE.out
      clear HPRE
      gi_wp2
      refine bodyPost_end (results_none rfl _ _ _) rfl ?_
      exact ⟨⟨_, rfl⟩, .inl ⟨_, hpre, hJk⟩⟩

theorem kept_stops (D1 I1 : Nat) (keep : List UInt8) (KA : Option Addr) (kc : Nat) (hkl : keep.length ≤ 1000000) {base p : Nat} {v : Value} {s : DS} (X : Nat → Prop) (h1 : X D1) (h2 : X I1) (hX : ∀ k, OwnL p v k → X k) (hKX : ∀ b o, 0 < keep.length → KA = some ⟨b, o, none⟩ → X b) (hlo : s.lo.length < 1000000) (w : World) (hXw : ∀ k, X k → k < w.heap.size)
    (hD1 : w.heap[D1]? = some (.cells #[dp p] 25)) (hI1 : w.heap[I1]? = some (.cells #[.slice KA keep.length kc] 41)) (hK : Sl w w.heap.size 1 KA keep.length (bvs keep)) (hD : DL w base p v s.lo) :
    SeqStopsK Fence.wide 10 Try.prog 77 #[.pointer (some ⟨D1, 0, none⟩), .pointer (some ⟨I1, 0, none⟩)] (fun x : {k : Nat // k < s.lo.length} => kcs s x.1) (Hold X) (fun ys => ys.map Subtype.val = keptK keep s.lo.length) (fun _ => True) (s.lo.length + 1) w := fun l J Jx W hW hJ _ hY h0 =>
  have hh := Hold.of_below hW hXw
  kept1_in l D1 I1 keep KA kc hkl X h1 h2 hX hKX hlo J Jx W (fun k hk => Nat.lt_of_lt_of_le (hXw k hk) hW.size) hJ (fun pre x V hV hl => hY pre x V hV hl) (hh.blk h1 hD1) (hh.blk h2 hI1) ((hK.below hW).mono hW.size) (hD.hold (fun k hk => hW.block k (hXw k (hX k hk)))) h0
end Go.Proofs.Ytnkdbkgihemjnaa
