/- TreeLevels: the walk. -/
import Derived.Test.YtcnbonmpocddmaaTrArg
import Derived.Lib.MinMax
namespace Go.Proofs.Ytcnbonmpocddmaa
set_option linter.unusedSimpArgs false
set_option linter.unusedVariables false
open Go.RowKit Go.Sort

theorem big_levels {A : Option Addr} {n c : Nat} (w : World) (h : 300 < n) : Calls Try.prog 6 #[.slice A n c] w (Ret w (.bool true)) := by
  have h1 : (300 : Int) < (n : Int) := by omega
  go_enter Try.func6, Try.ntmps6
  go_wp2_with (first
    | (go_at_call 7; refine Calls.mono (wakes23_any _) ?_; rintro e W3 ⟨rfl, hb3⟩)
    | fail)
  go_ret
  exact Ret.mk rfl hb3
theorem levelsT_succ {j : Nat} (hj : j ≤ 6) (lc : List (List UInt8)) : levelsT nK (7 - j) j lc = if (nodesT j lc).length = 1 then [nodesT j lc] else nodesT j lc :: levelsT nK (6 - j) (j + 1) ((nodesT j lc).map nK) := by
  rw [show 7 - j = (6 - j) + 1 from by omega, levelsT]
/-- where the walk over the levels stands -/
structure LvS (l : List (List UInt8)) (j : Nat) (lc : List (List UInt8)) (pre : List (List (List UInt8))) : Prop where
  j6 : j ≤ 6
  all : pre ++ levelsT nK (7 - j) j lc = levelsT nK 7 0 l
  len : pre.length = j
  wide : ∀ x ∈ lc, x.length = 32
  n1000 : lc.length ≤ 1000
  pos : 0 < l.length → 0 < lc.length
  lv : lvN lc.length + j ≤ 7
theorem LvS.start {l : List (List UInt8)} (hw : ∀ x ∈ l, x.length = 32) (hl : l.length ≤ 1000) : LvS l 0 l [] :=
  ⟨by omega, rfl, rfl, hw, hl, fun h => h, by unfold lvN; (repeat' split) <;> omega⟩
theorem LvS.part {l : List (List UInt8)} {j : Nat} {lc : List (List UInt8)} {pre : List (List (List UInt8))} (h : LvS l j lc pre) : ∃ rest, levelsT nK 7 0 l = pre ++ nodesT j lc :: rest := by
  have := h.all
  rw [levelsT_succ h.j6] at this
  split at this
  · exact ⟨[], by rw [← this]⟩
  · exact ⟨_, this.symm⟩
theorem LvS.at {l : List (List UInt8)} {j : Nat} {lc : List (List UInt8)} {pre : List (List (List UInt8))} (h : LvS l j lc pre) {i : Nat} {y : List UInt8} (hy : (nodesT j lc)[i]? = some y) : (levelsT nK 7 0 l).flatten[pre.flatten.length + i]? = some y := by
  obtain ⟨rest, e⟩ := h.part
  obtain ⟨hi, -⟩ := List.getElem?_eq_some_iff.1 hy
  rw [e, List.flatten_append, List.getElem?_append_right (by omega), Nat.add_sub_cancel_left, List.flatten_cons, List.getElem?_append_left hi, hy]
theorem LvS.le {l : List (List UInt8)} {j : Nat} {lc : List (List UInt8)} {pre : List (List (List UInt8))} (h : LvS l j lc pre) : pre.flatten.length + (nodesT j lc).length ≤ (levelsT nK 7 0 l).flatten.length := by
  obtain ⟨rest, e⟩ := h.part
  rw [e, List.flatten_append, List.length_append, List.flatten_cons, List.length_append]; omega
theorem LvS.stop {l : List (List UInt8)} {j : Nat} {lc : List (List UInt8)} {pre : List (List (List UInt8))} (h : LvS l j lc pre) (h1 : (nodesT j lc).length = 1) (hl : l.length ≤ 1000) : pre.flatten.length + 1 = (levelsT nK 7 0 l).flatten.length ∧ lvN l.length = j + 1 := by
  have := h.all
  rw [levelsT_succ h.j6, if_pos h1] at this
  have h7 : lvN l.length ≤ 7 := by unfold lvN; (repeat' split) <;> omega
  have hl2 := levelsT_len nK 7 0 l hl h7
  rw [← this] at hl2 ⊢
  rw [List.length_append, h.len] at hl2
  refine ⟨?_, hl2.symm⟩
  rw [List.flatten_append, List.length_append]
  simp [h1]
theorem LvS.next {l : List (List UInt8)} {j : Nat} {lc : List (List UInt8)} {pre : List (List (List UInt8))} (h : LvS l j lc pre) (h1 : ¬ (nodesT j lc).length = 1) : LvS l (j + 1) ((nodesT j lc).map nK) (pre ++ [nodesT j lc]) := by
  have ha := h.all
  rw [levelsT_succ h.j6, if_neg h1] at ha
  have hn := nodesT_len j lc
  have h3 : 3 < lc.length := by
    rw [hn] at h1
    split at h1 <;> omega
  have hn2 : (nodesT j lc).length = (lc.length + 2) / 3 := by rw [hn, if_neg (by omega)]
  have hs := lvN_step h3 h.n1000
  have hlv := h.lv
  have h1' : 1 ≤ lvN ((lc.length + 2) / 3) := by unfold lvN; (repeat' split) <;> omega
  refine ⟨by omega, ?_, by rw [List.length_append, h.len]; rfl, fun x hx => ?_, by rw [List.length_map, hn2]; have := h.n1000; omega, fun _ => by rw [List.length_map, hn2]; omega, by rw [List.length_map, hn2]; omega⟩
  · rw [← ha, show 7 - (j + 1) = 6 - j from by omega]; simp
  · obtain ⟨y, -, rfl⟩ := List.mem_map.1 hx; exact nK_len y
theorem max_lv (j : Nat) (lc : List (List UInt8)) : max (1 : Int) ((((lc.length + 2) / 3 : Nat)) : Int) = ((nodesT j lc).length : Int) := by
  rw [nodesT_len]
  split <;> omega
attribute [-go_sem] Builtin.append_
set_option maxHeartbeats 16000000 in
set_option maxRecDepth 100000 in
theorem levels_core {A : Option Addr} {n c : Nat} {l : List (List UInt8)} (w : World) (hl : DgAt w w.heap.size A n c l) (hn : n ≤ 300) :
    Calls Try.prog 6 #[.slice A n c] w (Ret w (.bool true)) := by
  have hln := hl.len
  have hnod := allnodes_any w hl (by omega)
  have hal : allN l = (levelsT nK 7 0 l).flatten := by unfold allN; rw [if_pos (by omega)]
  have htot := allN_len l
  have hst := LvS.start (l := l) hl.wide (by omega)
  have HL := Lib.hid (And.intro hl (And.intro hln hal))
  have HS := Lib.hid hst
  have i1 : ¬ (300 : Int) < (n : Int) := by omega
  have hl0 : Hid (l.length = n) := Lib.hid hln
  clear hl hal hst
  obtain ⟨ns, hns⟩ : ∃ q, allN l = q := ⟨_, rfl⟩
  rw [hns] at hnod htot HL
  clear hns hln
  go_enter Try.func6, Try.ntmps6
  go_upto_region 3 with (fail)
  go_wp2_with fail
  refine Calls.mono hnod ?_
  rintro e Z ⟨v, L, rfl, hnd, hbZ⟩
  obtain ⟨Av, cv, rfl, -⟩ := own_form hnd.own
  have HN := Lib.hid (And.intro hnd hbZ)
  clear hnod hnd hbZ
  go_wp2_with fail
  go_loopw [4, 5, 6] (fun s4 s5 s6 wr => ∃ (m0 j t0 : Nat), s4 = .int .i64 m0 ∧ s5 = .int .i64 j ∧ s6 = .int .i64 t0 ∧ m0 ≤ 1000 ∧ j ≤ 6 ∧ t0 ≤ 7000 ∧ Below Z.heap.size Z wr ∧ Hid (∃ lc pre, LvS l j lc pre ∧ lc.length = m0 ∧ pre.flatten.length = t0)) (fun _ s5 _ _ => 7 - (intOf s5).toNat)
  case atStart => exact ⟨n, 0, 0, rfl, rfl, rfl, by omega, by omega, by omega, Below.refl _ _, Lib.hid ⟨l, [], HS.out, hl0.out, rfl⟩⟩
  case round =>
    rename World => wo
    obtain ⟨m0, j, t0, rfl, rfl, rfl, hm0, hj, ht0, hBo, HI⟩ := hrel
    obtain ⟨lc, pre, hls, hlc, hpr⟩ := HI.out
    have hmax := max_lv j lc
    have hle := hls.le
    rw [hlc] at hmax
    rw [← HL.out.2.2] at hle
    obtain ⟨m, hm⟩ : ∃ q, (nodesT j lc).length = q := ⟨_, rfl⟩
    rw [hm] at hmax
    rw [hm, hpr] at hle
    have hmm : m ≤ 7000 := by omega
    have HI := Lib.hid (And.intro hls (And.intro hlc (And.intro hpr hm)))
    have g1 : IntKind.i64.wrap ((m0 : Int) + 2) = ((m0 + 2 : Nat) : Int) := by rw [wrap_small _ (by omega) (by omega)]; omega
    have g2 : ((m0 + 2 : Nat) : Int).tdiv 3 = (((m0 + 2) / 3 : Nat) : Int) := by rw [Int.tdiv_eq_ediv_of_nonneg (by omega)]; omega
    have g3 : IntKind.i64.wrap ((((m0 + 2) / 3 : Nat)) : Int) = ((((m0 + 2) / 3 : Nat)) : Int) := wrap_small _ (by omega) (by omega)
    have g4 : IntKind.i64.wrap ((j : Int) + 1) = ((j + 1 : Nat) : Int) := by rw [wrap_small _ (by omega) (by omega)]; omega
    clear hls hlc hpr hm
    go_wp2_with fail
    have hmx : max (1 : Int) (((m0 : Int) + 2) / 3) = (m : Int) := by rw [← hmax]; congr 1
    rw [hmx]
    clear hmx hmax g1 g2 g3
    go_loopw [6, 7] (fun s6 s7 wr => ∃ i : Nat, s7 = .int .i64 i ∧ i ≤ m ∧ s6 = .int .i64 ((t0 + i : Nat) : Int) ∧ Below Z.heap.size Z wr) (fun _ s7 _ => m - (intOf s7).toNat)
    case atStart => exact ⟨0, rfl, by omega, rfl, hBo⟩
    case round =>
      obtain ⟨i, rfl, hi, rfl, hBr⟩ := hrel
      by_cases hlt : i < m
      · have hlt' : (i : Int) < (m : Int) := by omega
        obtain ⟨hls, hlc, hpr, hm⟩ := HI.out
        obtain ⟨hnd, hbZ⟩ := HN.out
        obtain ⟨y, hy⟩ : ∃ y, (nodesT j lc)[i]? = some y := ⟨_, List.getElem?_eq_getElem (by omega)⟩
        have hat := hls.at hy
        rw [hpr, ← HL.out.2.2] at hat
        have hti : t0 + i < ns.length := (List.getElem?_eq_some_iff.1 hat).1
        obtain ⟨p, rfl, hp3, hpw, hp0⟩ := nodesT_mem hls.wide (List.mem_of_getElem? hy)
        have hndr := hnd.below hBr
        have hLl : L.length = ns.length := by rw [← hnd.txt, ndT, List.length_map]
        obtain ⟨x, hx⟩ : ∃ x, L[t0 + i]? = some x := ⟨_, List.getElem?_eq_getElem (by omega)⟩
        have hxn : x.2.2 = nodeB j p := by
          have h2 := hnd.txt
          rw [← h2, ndT, List.getElem?_map, hx] at hat
          simpa using hat
        obtain ⟨b, c2, ev, hb1, hb2, hbc, -⟩ := hndr.entry hx
        cases ev
        have hnx := hndr.each x (List.mem_of_getElem? hx)
        have hxl : x.2.2.length ≤ 98 := by rw [hxn, enc_len hpw]; omega
        have hdec := tdec_any (c := x.2.1) wr hnx.sl (Nat.le_refl _) (by omega) hnx.cap hnx.max
        obtain ⟨-, t1, t2, t3⟩ := node_dec (lv := j) (p := p) (by omega) hp3 hpw
        unfold TDec at hdec
        rw [hxn, t1, t2, t3, ← hxn] at hdec
        unfold slv at hbc
        obtain ⟨nx, hnxx⟩ : ∃ q, x.2.2.length = q := ⟨_, rfl⟩
        rw [hnxx] at hbc hdec
        have hpl : 0 < n → 0 < p.length := fun h => hp0 (hls.pos (by rw [HL.out.2.1]; exact h))
        have hpq : ¬ (p.length = 0 ∧ 0 < n) := fun h => by have := hpl h.2; omega
        have i2 : ((t0 + i : Nat) : Int) < (ns.length : Int) := by omega
        have i3 : ¬ (ns.length : Int) ≤ ((t0 + i : Nat) : Int) := by omega
        have g5 : IntKind.i64.wrap (((t0 + i : Nat) : Int) + 1) = ((t0 + (i + 1) : Nat) : Int) := by rw [wrap_small _ (by omega) (by omega)]; omega
        have g6 : IntKind.i64.wrap ((i : Int) + 1) = ((i + 1 : Nat) : Int) := by rw [wrap_small _ (by omega) (by omega)]; omega
        clear hls hlc hpr hm hnd hbZ hy hat hndr hLl hx hxn hnx hxl hpw hp0 t1 t2 t3 hnxx hpl
        obtain ⟨q, hq⟩ : ∃ q, t0 + i = q := ⟨_, rfl⟩
        have HQ := Lib.hid hq
        rw [hq] at i2 i3 g5 hbc hti
        rw [hq]
        clear hq
        go_wp2_with fail
        refine Calls.mono hdec ?_
        rintro e wd ⟨A4, n4, c4, rfl, hd4, hc4, hb4⟩
        have hn4 : p.length = n4 := hd4.len
        have hbd : Below Z.heap.size Z wd := hBr.trans (hb4.mono hBr.size)
        rw [hn4] at hp3 hpq
        clear hd4 hb4 hdec hn4 hBr
        have i4 : ¬ (3 : Int) < (n4 : Int) := by omega
        have i5 : ¬ ((n4 : Int) > 3) := by omega
        by_cases h0 : n4 = 0
        · have i6 : (n4 : Int) = 0 := by omega
          have i7 : ¬ (0 : Int) < (n : Int) := by omega
          have H0 := Lib.hid h0
          clear h0 hpq
          go_wp2_with fail
          go_roundw
          case rel => exact ⟨i + 1, by go_num, by omega, by go_num, hbd⟩
          case measure => simp [intOf]; omega
        · have i6 : ¬ (n4 : Int) = 0 := by omega
          clear h0 hpq
          go_wp2_with fail
          go_roundw
          case rel => exact ⟨i + 1, by go_num, by omega, by go_num, hbd⟩
          case measure => simp [intOf]; omega
      · obtain rfl : i = m := by omega
        have hlt' : ¬ (i : Int) < (i : Int) := by omega
        by_cases h1 : i = 1
        · subst h1
          obtain ⟨hls, hlc, hpr, hm⟩ := HI.out
          obtain ⟨hnd, hbZ⟩ := HN.out
          obtain ⟨hlA, hlnA, hnsA⟩ := HL.out
          obtain ⟨e1, e2⟩ := hls.stop hm (by omega)
          rw [hpr, ← hnsA] at e1
          rw [hlnA] at e2
          have hBw := bNext hbZ (hBr.mono (Nat.le_refl _))
          have hat := hlA.nxt hBw
          have hlev := fun W => levels_any (n : Int) W
          have hlvv : lvT (n : Int) = ((j + 1 : Nat) : Int) := by unfold lvT; rw [if_pos (by omega), Int.toNat_natCast, e2]
          rw [hlvv] at hlev
          have i9 : ((t0 : Int) + 1) = (ns.length : Int) := by omega
          have HX := Lib.hid (And.intro hat hBw)
          have hrl := rootT_len l
          have hq := fun W => dg_eq hrl W
          obtain ⟨R, hR⟩ : ∃ q, (bvs (rootT l)).toArray = q := ⟨_, rfl⟩
          have HR := Lib.hid hR
          simp only [hR] at hq
          clear hls hlc hpr hm hnd hbZ hlA hlnA hnsA e1 e2 hBw hat hlvv hR
          go_wp2_with fail
          refine Calls.mono (hlev _) ?_
          rintro e W5 ⟨rfl, hb5⟩
          have hat5 := HX.out.1.nxt hb5
          have hB5 := bNext HX.out.2 hb5
          obtain ⟨U, hU⟩ : ∃ q, W5.alloc (.cells #[] 40) = q := ⟨_, rfl⟩
          have hown0 := own_none' W5 W5.heap.size 40 32 (Nat.le_refl _)
          have hbU : Below W5.heap.size W5 U := by rw [← hU]; exact (Below.refl _ _).alloc (Nat.le_refl _) _
          rw [hU] at hown0
          obtain ⟨A7, c7, W7, hrun, hown7, hg7, hat7⟩ := run_app (P := Try.prog) U (ty := 22) (t := 22) Try.underlying22 elemD hown0 (hat5.sl.below hbU) (c := c) (fun u hu => by
            unfold dgs at hu
            obtain ⟨y, -, hy⟩ := List.mem_flatMap.1 hu
            exact oneCell_bvs y u hy) (by simp only [maxLen]; omega) (by omega) hbU.size
          have hb7 : Below W5.heap.size W5 W7 := hbU.trans ((Below.refl _ _).grown hg7 hbU.size (own_ge hown0))
          rw [Nat.zero_add, List.nil_append] at hown7
          rw [Nat.zero_add] at hrun
          have hd7 := DgAt.of_own hown7 hat5.len hat5.wide
          have hr7 := root_any W7 hd7 (by omega)
          have hat7 := hat5.nxt hb7
          have hB7 := bNext hB5 hb7
          rw [HR.out] at hr7
          have HY := Lib.hid (And.intro hat7 hB7)
          clear hat5 hB5 hbU hown0 hown7 hg7 hb7 hd7 hat7 hb5
          go_wp2_with (first | rw [hU] | fail)
          refine Calls.mono hr7 ?_
          rintro e W8 ⟨rfl, hb8⟩
          have hat8 := HY.out.1.nxt hb8
          have hB8 := bNext HY.out.2 hb8
          have hr8 := root_any W8 hat8 (by omega)
          rw [HR.out] at hr8
          clear hr7 hb8 hrun hat8
          go_wp2_with fail
          refine Calls.mono hr8 ?_
          rintro e W9 ⟨rfl, hb9⟩
          clear hr8
          go_wp2_with (first
            | (go_at_call 7; refine Calls.mono (wakes23_any _) ?_; rintro e W3 ⟨rfl, hb3⟩)
            | fail)
          go_ret
          exact Ret.mk rfl (bNext (bNext hB8 hb9) hb3)
        · have i8 : ¬ (i : Int) = 1 := by omega
          obtain ⟨hls, hlc, hpr, hm⟩ := HI.out
          have hnx := hls.next (by rw [hm]; exact h1)
          have hj5 : j + 1 ≤ 6 := hnx.j6
          have HX := Lib.hid (And.intro hnx (And.intro (show ((nodesT j lc).map nK).length = i by rw [List.length_map, hm]) (show (pre ++ [nodesT j lc]).flatten.length = t0 + i by simp [hpr, hm])))
          have hi1000 : i ≤ 1000 := by have := hnx.n1000; rw [List.length_map, hm] at this; exact this
          clear hls hlc hpr hm hnx h1
          go_wp2_with fail
          go_roundw
          case rel => exact ⟨i, j + 1, t0 + i, rfl, by go_num, by go_num, hi1000, hj5, by omega, hBr, Lib.hid ⟨_, _, HX.out⟩⟩
          case measure => simp [intOf]; omega
theorem treeLevels_walk {H : Type} {enc : TypeId × Value → H} {W : World} {base : Nat} {v0 : Value} {d0 : DataW H} {p0 : List MemPlace}
    (k0 : Value.okWide Try.prog W .any base 22 v0) (h0 : DataW.Trod enc Try.prog W 0 (fun _ => true) true 22 v0 d0 p0)
    : Calls Try.prog 6 #[v0] W fun e W' => e = .returned (.bool true) ∧ Below W.heap.size W W' := by
  obtain ⟨A, n, c, l, rfl, hl⟩ := open_digests k0 h0
  by_cases h : 300 < n
  · exact big_levels W h
  · exact levels_core W hl (by omega)
end Go.Proofs.Ytcnbonmpocddmaa
