/- The walk over LogOrder. -/
import Derived.Test.YtjfkaebikmnnaaaRevWakes
import Derived.Test.YtjfkaebikmnnaaaRevArg
import Derived.Test.YtjfkaebikmnnaaaRevPlain3
import Derived.BigQuiet
namespace Go.Proofs.Ytjfkaebikmnnaaa
set_option linter.unusedSimpArgs false
set_option linter.unusedVariables false
open Go.RowKit Go.ChangeShapes Go.WideShapes Go.Sort

/-- what the first loop has found when k entries have been gone through -/
def wantTo (next : Int) (n : Nat) (l : List LE) (k : Nat) : Prop := (1 ≤ next ∧ next ≤ 65535 ∧ n ≤ 8) ∧ ∀ j : Nat, j < k → ahd 0 l j < numAt l j ∧ numAt l j < next
theorem want_all {next : Int} {n : Nat} {l : List LE} (h : l.length = n) : wantTo next n l n ↔ goodL next l = true := by
  rw [goodL_iff, rise_iff, h]; rfl
theorem want_succ {next : Int} {n : Nat} {l : List LE} {k : Nat} : wantTo next n l (k + 1) ↔ wantTo next n l k ∧ ahd 0 l k < numAt l k ∧ numAt l k < next := by
  unfold wantTo
  constructor
  · rintro ⟨h, h2⟩
    exact ⟨⟨h, fun j hj => h2 j (by omega)⟩, h2 k (by omega)⟩
  · rintro ⟨⟨h, h2⟩, h3⟩
    refine ⟨h, fun j hj => ?_⟩
    rcases Nat.lt_or_ge j k with h | h
    · exact h2 j h
    · obtain rfl : j = k := by omega
      exact h3
theorem LgAt.nxt {w w2 : World} {A : Option Addr} {n c : Nat} {l : List LE} (h : LgAt w w.heap.size A n c l) (hb : Below w.heap.size w w2) : LgAt w2 w2.heap.size A n c l := ⟨h.ok, h.len, h.sl.next hb, h.cap⟩
theorem ahd_succ {l : List LE} {k : Nat} {x : LE} (h : l[k]? = some x) : ahd 0 l (k + 1) = x.num := by unfold ahd; rw [if_neg (by omega), Nat.add_sub_cancel, numAt_of h]

theorem good_entry {next : Int} {l : List LE} (hk : ∀ x ∈ l, x.key.length = 32 ∧ 0 ≤ x.num ∧ x.num ≤ 65535) {i : Nat} {x : LE} (h : l[i]? = some x) :
    (((at8 (bytesL next l) (3 + i * 34)).toNat * 256 + (at8 (bytesL next l) (3 + i * 34 + 1)).toNat : Nat) : Int) = x.num ∧ ((bytesL next l).drop (3 + i * 34 + 2)).take 32 = x.key := by
  obtain ⟨hi, rfl⟩ := List.getElem?_eq_some_iff.1 h
  have := decE_log (next := next) hk [] hi
  rw [List.append_nil] at this
  rw [← this]
  exact ⟨rfl, rfl⟩
theorem sl_cut {w : World} {B n : Nat} {p o : Nat} {l m : List UInt8} (h : Sl w B 1 (some ⟨p, o, none⟩) n (bvs l)) (k : Nat) {q : Nat} (hm : (l.drop k).take q = m) (hq : m.length = q) (h0 : 0 < n) : Sl w B 1 (some ⟨p, o + k, none⟩) q (bvs m) := by
  obtain ⟨p', o', e, hb, hr⟩ := h.at_ h0
  simp only [Option.some.injEq, Addr.mk.injEq, and_true] at e
  obtain ⟨rfl, rfl⟩ := e
  refine ⟨by rw [bvs_len, hq, Nat.mul_one], fun _ => ⟨p, o + k, rfl, hb, ?_⟩⟩
  have := range_cut hr k q
  rwa [show ((bvs l).drop k).take q = bvs ((l.drop k).take q) from by simp [bvs, List.map_take, List.map_drop], hm] at this
theorem good_mono {next : Int} {l : List LE} (h : goodL next l = true) : ∀ (k j : Nat), k < l.length → j < k → numAt l j < numAt l k := by
  have hr := (rise_iff next l 0).1 (goodL_iff.1 h).2
  intro k
  induction k with
  | zero => intro j _ hj; omega
  | succ k ih =>
    intro j hk hj
    have h1 := (hr (k + 1) hk).1
    have e : ahd 0 l (k + 1) = numAt l k := by unfold ahd; rw [if_neg (by omega), Nat.add_sub_cancel]
    rw [e] at h1
    rcases Nat.lt_or_ge j k with h | h
    · have := ih j (by omega) h; omega
    · obtain rfl : j = k := by omega
      exact h1
theorem good_find {next : Int} {l : List LE} (h : goodL next l = true) {j : Nat} {x : LE} (hx : l[j]? = some x) : fdx l x.num = j := by
  have hj := (List.getElem?_eq_some_iff.1 hx).1
  refine fdx_at hj (numAt_of hx) (fun i hi => ?_)
  have := good_mono h j i hj hi
  rw [numAt_of hx] at this
  omega
theorem good_none {next : Int} {l : List LE} (h : goodL next l = true) : fdx l next = -1 := by
  have hr := (rise_iff next l 0).1 (goodL_iff.1 h).2
  exact fdx_none (fun j hj => by have := (hr j hj).2; omega)
set_option maxHeartbeats 16000000 in
set_option maxRecDepth 100000 in
theorem logOrder_core {next : Int} {A : Option Addr} {n c : Nat} {l : List LE} (w : World) (hl : LgAt w w.heap.size A n c l) (hcm : c ≤ maxLen) (hn : n ≤ 50) : Calls Try.prog 8 #[lgv next A n c] w (Ret w (.bool true)) := by
  have hln := hl.len
  have HN := Lib.hid hln
  clear hln
  unfold lgv
  go_enter Try.func8, Try.ntmps8
  go_upto_region 1 with (fail)
  obtain ⟨W, hW⟩ : ∃ W, w.alloc (.cells #[.int .i64 next, .slice A n c] 46) = W := ⟨_, rfl⟩
  try rw [hW]
  have a1 : W.heap[w.heap.size]? = some (.cells #[.int .i64 next, .slice A n c] 46) := by rw [← hW]; exact heap_alloc_new _ _
  have hB : Below w.heap.size w W := by rw [← hW]; exact (Below.refl _ _).alloc (Nat.le_refl _) _
  have l1 := (Array.getElem?_eq_some_iff.1 a1).1
  clear hW
  replace hl := hl.nxt hB
  have c0 : W.cell? ⟨w.heap.size, 0, none⟩ = some (.int .i64 next) := blk_cell a1 rfl
  have c1 : W.cell? ⟨w.heap.size, 1, none⟩ = some (.slice A n c) := blk_cell a1 rfl
  have HA := Lib.hid a1
  have HL := Lib.hid hl
  have HB := Lib.hid hB
  clear a1 hl hB
  go_upto_region 3 with (fail)
  go_cut [3] from 19 to 32 (fun s3 wx => (∃ b : Bool, s3 = .bool b ∧ (b = true ↔ wantTo next n l 0)) ∧ wx = W)
  case first =>
    have h0 : wantTo next n l 0 ↔ 1 ≤ next ∧ next ≤ 65535 ∧ n ≤ 8 := ⟨fun h => h.1, fun h => ⟨h, fun j hj => absurd hj (by omega)⟩⟩
    have hw : (next < 1) ∨ (1 ≤ next ∧ 65535 < next) ∨ (1 ≤ next ∧ next ≤ 65535) := by omega
    rcases hw with h | ⟨h, h'⟩ | ⟨h, h'⟩
    · go_wp2_with fail
      go_meet
      exact ⟨⟨_, rfl, by rw [h0]; simp; omega⟩, rfl⟩
    · go_wp2_with fail
      go_meet
      exact ⟨⟨_, rfl, by rw [h0]; simp; omega⟩, rfl⟩
    · go_wp2_with fail
      go_meet
      exact ⟨⟨_, rfl, by rw [h0]; simp; omega⟩, rfl⟩
  case rest =>
    obtain ⟨⟨b0, rfl, hb0⟩, rfl⟩ := hcut
    go_wp2_with fail
    go_loopw [3, 4, 5] (fun sw sa si wr => ∃ (k : Nat) (b : Bool), k ≤ n ∧ sw = .bool b ∧ sa = .int .i64 (ahd 0 l k) ∧ si = .int .i64 k ∧ (b = true ↔ wantTo next n l k) ∧ Below wc.heap.size wc wr) (fun _ _ i _ => n - (intOf i).toNat)
    case atStart => exact ⟨0, b0, by omega, rfl, rfl, rfl, hb0, Below.refl _ _⟩
    case round =>
      clear hb0 b0
      obtain ⟨k, b, hk, rfl, rfl, rfl, hbw, hbr⟩ := hrel
      by_cases hlt : k < n
      · obtain ⟨x, hx⟩ : ∃ x, l[k]? = some x := ⟨_, List.getElem?_eq_getElem (by rw [HN.out]; exact hlt)⟩
        have hnx := numAt_of hx
        have hax := ahd_succ hx
        obtain ⟨b1, o1, rfl, hbB, hxr⟩ := HL.out.entry hx
        have hxo := HL.out.ok x (List.mem_of_getElem? hx)
        have hws := want_succ (next := next) (n := n) (l := l) (k := k)
        rw [hnx] at hws
        obtain ⟨xk, hxk⟩ : ∃ q, numAt l k = q := ⟨_, rfl⟩
        have hzr := hbr.size
        have e0 : wr.cell? ⟨b1, o1 + k * 33, none⟩ = some (.int .i64 x.num) := (hbr.cell (p := ⟨b1, o1 + k * 33, none⟩) hbB).trans (by have := hxr 0 (.int .i64 x.num) (by simp [LE.cells]); simpa using this)
        replace c0 := (hbr.cell (p := ⟨w.heap.size, 0, none⟩) l1).trans c0
        replace c1 := (hbr.cell (p := ⟨w.heap.size, 1, none⟩) l1).trans c1
        have hi1 : (k : Int) < (n : Int) := by omega
        have hbl : b1 < wr.heap.size := by omega
        have hwl : w.heap.size < wr.heap.size := by omega
        have HX := Lib.hid (And.intro hbr hxo)
        obtain ⟨ak, hak⟩ : ∃ q, ahd 0 l k = q := ⟨_, rfl⟩
        rw [hak] at hws
        rw [hak]
        obtain ⟨z, hz⟩ : ∃ q, x.num = q := ⟨_, rfl⟩
        rw [hz] at hws e0 hax
        have HW := Lib.hid (And.intro hws (And.intro hbw hax))
        clear hws hbw hax hbr hxo hx hxr hnx hxk hak hz
        go_upto_region 8 with (fail)
        go_cut [3] from 40 to 61 (fun s3 wx => (∃ b : Bool, s3 = .bool b ∧ (b = true ↔ wantTo next n l (k + 1))) ∧ Below wr.heap.size wr wx)
        case first =>
          cases b
          · go_quiet (fail)
            go_wp2_with fail
            go_meet
            exact ⟨⟨false, rfl, by simp; exact fun h => by have := HW.out.2.1.2 (HW.out.1.1 h).1; simp at this⟩, bDrewN (Below.refl _ _) nq⟩
          · by_cases g1 : ak < z
            · go_quiet (fail)
              go_wp2_with fail
              go_meet
              exact ⟨⟨_, rfl, by rw [HW.out.1, decide_eq_true_iff]; exact ⟨fun h => ⟨HW.out.2.1.1 trivial, g1, h⟩, fun h => h.2.2⟩⟩, bDrewN (Below.refl _ _) nq⟩
            · go_quiet (fail)
              go_wp2_with fail
              go_meet
              exact ⟨⟨_, rfl, by rw [HW.out.1]; simp; intro _ h; omega⟩, bDrewN (Below.refl _ _) nq⟩
        case rest =>
          obtain ⟨⟨b2, rfl, hb2⟩, hbx⟩ := hcut
          replace e0 := (hbx.cell (p := ⟨b1, o1 + k * 33, none⟩) hbl).trans e0
          replace c1 := (hbx.cell (p := ⟨w.heap.size, 1, none⟩) hwl).trans c1
          have hzx := hbx.size
          have HX2 := Lib.hid (And.intro hb2 hbx)
          clear hb2 hbx
          go_wp2_with fail
          go_roundw
          case rel => exact ⟨k + 1, b2, by omega, rfl, by rw [HW.out.2.2], by go_num, HX2.out.1, HX.out.1.trans (HX2.out.2.mono HX.out.1.size)⟩
          case measure => simp [intOf]; omega
      · clear c0 c1
        obtain rfl : k = n := by omega
        rw [want_all HN.out] at hbw
        obtain rfl : goodL next l = b := by
          cases b <;> cases hg : goodL next l <;> simp_all
        have hB2 := HB.out.trans (hbr.mono HB.out.size)
        have hll := HL.out.nxt hbr
        have a1 := bBlk hbr l1 HA.out
        have l2 := (Array.getElem?_eq_some_iff.1 a1).1
        have hd0 : ¬ (k : Int) < (k : Int) := by omega
        have c1 : wr.cell? ⟨w.heap.size, 1, none⟩ = some (.slice A k c) := blk_cell a1 rfl
        have hlg := log_any (next := next) wr hll (Nat.le_refl _)
        unfold EncP lgv at hlg
        obtain ⟨g, hg⟩ : ∃ g, goodL next l = g := ⟨_, rfl⟩
        obtain ⟨E, hE⟩ : ∃ q, encL next l = q := ⟨_, rfl⟩
        rw [hg, hE] at hlg
        rw [hg]
        have HA1 := Lib.hid a1
        have HL1 := Lib.hid hll
        have HB1 := Lib.hid hB2
        have HG := Lib.hid (And.intro hg hE)
        clear hbw hbr HA HL HB a1 hll hB2 hg hE hlt
        go_upto_region 10 with (fail)
        refine wp_region_lit ?_
        refine wpList_load_row rfl 46 (.tmp 1) rfl _ rfl _ #[.int .i64 next, .slice A k c] (0, 0) _ HA1.out Try.underlying46 rfl (lg_info _ _) ?_
        (try simp only [Act.put, List.setIfInBounds_toArray, List.set_cons_zero, List.set_cons_succ])
        go_wp2_with fail
        refine Calls.mono hlg ?_
        rintro e Y ⟨A6, n6, c6, rfl, hn6, hnc6, hcm6, -, s6, hb⟩
        clear hlg c1
        have hll := HL1.out.nxt hb
        have a1 := bBlk hb l2 HA1.out
        have l3 := (Array.getElem?_eq_some_iff.1 a1).1
        have hB3 := HB1.out.trans (hb.mono HB1.out.size)
        clear HA1 HL1 HB1 hb l1 l2
        cases g
        · have e0 : E = [] := by rw [← HG.out.2]; unfold encL; rw [HG.out.1]; rfl
          subst e0
          replace hn6 : n6 = 0 := hn6
          subst hn6
          rw [erN]
          go_wp2_with (first
            | (go_at_call 18; refine Calls.mono (wakes24_any _) ?_; rintro e W3 ⟨rfl, hb3⟩)
            | fail)
          go_ret
          exact Ret.mk rfl (bNext hB3 hb3)
        · rw [erT]
          have hgd := HG.out.1
          have e1 : E = bytesL next l := by rw [← HG.out.2]; unfold encL; rw [hgd, if_pos rfl]
          have hfit := goodL_fit hgd hll.ok
          have hfi := fun (j : Nat) (x : LE) (h : l[j]? = some x) => good_find hgd h
          have hfn := good_none hgd
          obtain ⟨⟨g1, g2, g3⟩, -⟩ := goodL_iff.1 hgd
          have hlk := HN.out
          have h8 : k ≤ 8 := by omega
          have hn6' : n6 = 3 + k * 34 := by rw [hn6, e1, bytesL_len hll.ok, hlk]
          have HN6 := Lib.hid hn6'
          have hn60 : 0 < n6 := by omega
          clear hn6 hgd hn6'
          have hdl := fun (i : Nat) (y : LE) (h : l[i]? = some y) => good_entry hfit (next := next) h
          rw [e1] at s6
          have l4 := l3
          have HS := Lib.hid (And.intro s6 (And.intro hdl hfit))
          have HF := Lib.hid (And.intro hfi hfn)
          have HA := Lib.hid a1
          have HL := Lib.hid hll
          have HB := Lib.hid hB3
          obtain ⟨pb, ob, rfl, hpb, -⟩ := s6.at_ (by omega)
          have c1 : Y.cell? ⟨w.heap.size, 1, none⟩ = some (.slice A k c) := blk_cell a1 rfl
          clear e1 hfit hfi hfn hdl s6 a1 hll hB3 HG l4
          go_wp2_with fail
          go_loopw [8] (fun si wr => ∃ j : Nat, j ≤ k ∧ si = .int .i64 j ∧ Below Y.heap.size Y wr) (fun i _ => k - (intOf i).toNat)
          case atStart => exact ⟨0, by omega, rfl, Below.refl _ _⟩
          case round =>
            obtain ⟨j, hj, rfl, hbr⟩ := hrel
            have hzr := hbr.size
            have hwl : w.heap.size < wr.heap.size := by omega
            replace c1 := (hbr.cell (p := ⟨w.heap.size, 1, none⟩) l3).trans c1
            by_cases hlt : j < k
            · obtain ⟨x, hx⟩ : ∃ x, l[j]? = some x := ⟨_, List.getElem?_eq_getElem (by rw [HN.out]; exact hlt)⟩
              obtain ⟨b1, o1, rfl, hbB, hxr⟩ := HL.out.entry hx
              have hxo := HL.out.ok x (List.mem_of_getElem? hx)
              have hfx := HF.out.1 j x hx
              obtain ⟨q1, q2⟩ := HS.out.2.1 j x hx
              obtain ⟨-, q3, q4⟩ := HS.out.2.2 x (List.mem_of_getElem? hx)
              obtain ⟨t, ht⟩ : ∃ t, 3 + j * 34 = t := ⟨_, rfl⟩
              rw [ht] at q1 q2
              have htn : t + 34 ≤ n6 := by have := HN6.out; omega
              have k0 := HS.out.1.cellAt rfl (i := t) (by omega)
              have k1 := HS.out.1.cellAt rfl (i := t + 1) (by omega)
              have kS := sl_cut HS.out.1 (t + 2) q2 (by rw [hxo.key]) (by omega)
              have P1 := (at8 (bytesL next l) t).toNat_lt
              have Q1 := (at8 (bytesL next l) (t + 1)).toNat_lt
              generalize (at8 (bytesL next l) t).toNat = P at *
              generalize (at8 (bytesL next l) (t + 1)).toNat = Q at *
              have w0 : IntKind.i64.wrap (P : Int) = P := wrap_small _ (by omega) (by omega)
              have w1 : IntKind.i64.wrap (Q : Int) = Q := wrap_small _ (by omega) (by omega)
              have w5 : IntKind.i64.wrap ((P : Int) * 256) = P * 256 := wrap_small _ (by omega) (by omega)
              have w7 : IntKind.i64.wrap ((P : Int) * 256 + Q) = x.num := by rw [← q1]; exact wrap_small _ (by omega) (by omega)
              have wa0 : IntKind.i64.wrap (34 * (j : Int)) = 34 * j := wrap_small _ (by omega) (by omega)
              have wa3 : IntKind.i64.wrap (3 + 34 * (j : Int)) = (t : Int) := by rw [← ht]; rw [wrap_small _ (by omega) (by omega)]; omega
              have wa1 : IntKind.i64.wrap ((t : Int) + 1) = (t : Int) + 1 := wrap_small _ (by omega) (by omega)
              have wa2 : IntKind.i64.wrap ((t : Int) + 2) = (t : Int) + 2 := wrap_small _ (by omega) (by omega)
              have wa4 : IntKind.i64.wrap ((t : Int) + 34) = (t : Int) + 34 := wrap_small _ (by omega) (by omega)
              have na1 : ((t : Int) + 1).toNat = t + 1 := by omega
              have na2 : ((t : Int) + 2).toNat = t + 2 := by omega
              have na4 : ((t : Int) + 34).toNat = t + 34 := by omega
              have hi1 : (j : Int) < (k : Int) := by omega
              have hbl : b1 < wr.heap.size := by omega
              have hpl : pb < wr.heap.size := by omega
              have e0 : wr.cell? ⟨b1, o1 + j * 33, none⟩ = some (.int .i64 x.num) := (hbr.cell (p := ⟨b1, o1 + j * 33, none⟩) hbB).trans (by have := hxr 0 (.int .i64 x.num) (by simp [LE.cells]); simpa using this)
              have vS : Sl Y Y.heap.size 1 (some ⟨b1, o1 + j * 33 + 1, none⟩) 32 (bvs x.key) := ⟨by rw [bvs_len, hxo.key], fun _ => ⟨b1, o1 + j * 33 + 1, rfl, hbB, fun i v hv => by
                have := hxr (i + 1) v (by simpa [LE.cells] using hv)
                rw [← this]; congr 2; omega⟩⟩
              have hfa := fun W (h : Below Y.heap.size Y W) => find_any (next := next) (c := c) x.num W (HL.out.below h) h.size (by omega)
              rw [hfx] at hfa
              have hrf : retF (j : Int) = .tuple #[.int .i64 j, .bool true] := by unfold retF; rw [Int.max_eq_left (by omega), decide_eq_true (by omega)]
              rw [hrf] at hfa
              have a1 := bBlk hbr l3 HA.out
              obtain ⟨xn, hxn⟩ : ∃ q, x.num = q := ⟨_, rfl⟩
              rw [hxn] at e0 hfa w7 q4 q3
              have H1 := Lib.hid (And.intro hbr (And.intro kS vS))
              have HK := Lib.hid (And.intro k0 k1)
              have HFA := Lib.hid hfa
              clear q1 q2 q3 q4 k0 k1 kS vS hfa hrf hfx hxr hxo hxn ht hx P1 Q1
              go_upto_region 18 with (fail)
              go_cut [9, 10] from 92 to 102 (fun s9 s10 wx => s9 = .int .i64 j ∧ s10 = .bool true ∧ Below wr.heap.size wr wx)
              case first =>
                let S : World → Prop := fun w' => Below wr.heap.size wr w'
                have hS0 : S wr.drew := (Below.refl _ _).drew
                have ra := fun w' (h : S w') => range_blk (cs := [.int .i64 next, .slice (some ⟨b1, o1, none⟩) k c]) (bBlk (show Below wr.heap.size wr w' from h) hwl a1)
                have li : (Try.prog.info? 46).map (·.size) = some 2 := by kernel_rfl
                have rc := fun w' (h : S w') => ((show Below wr.heap.size wr w' from h).cell (p := ⟨w.heap.size, 1, none⟩) hwl).trans c1
                have re := fun w' (h : S w') => ((show Below wr.heap.size wr w' from h).cell (p := ⟨b1, o1 + j * 33, none⟩) hbl).trans e0
                have rf := fun w' (h : S w') => HFA.out w' (H1.out.1.trans (Below.mono h H1.out.1.size))
                unfold lgv at rf
                clear c1 e0
                refine wp_region_held (S := S) (by kernel_rfl) ?_
                change wpAnyH _ _ _ _ S _ _ _ wr.drew
                refine wpAnyH_take (i := 0) (oi := ?oi_56) (v := ?v_56) ?ho_56 ?h1_56 ?h2_56 ?h3_56 ?hq_56 (Or.inl ⟨?hw_56, ?hy_56⟩) ?hs_56 ?rest_56; (case h2_56 => kernel_rfl); (case h3_56 => kernel_rfl); (case ho_56 => (simp only [List.getElem?_toArray, List.getElem?_cons_zero, List.getElem?_cons_succ]; rfl)); (case h1_56 => kernel_rfl); (case hq_56 => exact fun _ _ _ h => h); (case hw_56 => rfl); (case hy_56 => (intro w' hSw; refine exec_load_row (x := .tmp 1) ?_ ?_ (ra w' hSw) Try.underlying46 ?_ li <;> rfl)); (case hs_56 => assumption); (try simp only [Act.put, List.setIfInBounds_toArray, List.set_cons_zero, List.set_cons_succ])
                refine wpAnyH_take (i := 1) (oi := ?oi_1) (v := ?v_1) ?ho_1 ?h1_1 ?h2_1 ?h3_1 ?hq_1 (Or.inl ⟨?hw_1, ?hy_1⟩) ?hs_1 ?rest_1; (case h2_1 => kernel_rfl); (case h3_1 => kernel_rfl); (case ho_1 => (simp only [List.getElem?_toArray, List.getElem?_cons_zero, List.getElem?_cons_succ]; rfl)); (case h1_1 => kernel_rfl); (case hq_1 => exact fun _ _ _ h => h); (case hw_1 => rfl); (case hy_1 => (intro w' hSw; (try simp only [S] at hSw); go_simp; (try with_reducible rfl))); (case hs_1 => assumption); (try simp only [Act.put, List.setIfInBounds_toArray, List.set_cons_zero, List.set_cons_succ])
                refine wpAnyH_take (i := 2) (oi := ?oi_57) (v := ?v_57) ?ho_57 ?h1_57 ?h2_57 ?h3_57 ?hq_57 (Or.inl ⟨?hw_57, ?hy_57⟩) ?hs_57 ?rest_57; (case h2_57 => kernel_rfl); (case h3_57 => kernel_rfl); (case ho_57 => (simp only [List.getElem?_toArray, List.getElem?_cons_zero, List.getElem?_cons_succ]; rfl)); (case h1_57 => kernel_rfl); (case hq_57 => exact fun _ _ _ h => h); (case hw_57 => rfl); (case hy_57 => (intro w' hSw; have hq := rc w' hSw; go_simp; (try with_reducible rfl))); (case hs_57 => assumption); (try simp only [Act.put, List.setIfInBounds_toArray, List.set_cons_zero, List.set_cons_succ])
                refine wpAnyH_take (i := 3) (oi := ?oi_2) (v := ?v_2) ?ho_2 ?h1_2 ?h2_2 ?h3_2 ?hq_2 (Or.inl ⟨?hw_2, ?hy_2⟩) ?hs_2 ?rest_2; (case h2_2 => kernel_rfl); (case h3_2 => kernel_rfl); (case ho_2 => (simp only [List.getElem?_toArray, List.getElem?_cons_zero, List.getElem?_cons_succ]; rfl)); (case h1_2 => kernel_rfl); (case hq_2 => exact fun _ _ _ h => h); (case hw_2 => rfl); (case hy_2 => (intro w' hSw; (try simp only [S] at hSw); go_simp; (try with_reducible rfl))); (case hs_2 => assumption); (try simp only [Act.put, List.setIfInBounds_toArray, List.set_cons_zero, List.set_cons_succ])
                refine wpAnyH_take (i := 4) (oi := ?oi_3) (v := ?v_3) ?ho_3 ?h1_3 ?h2_3 ?h3_3 ?hq_3 (Or.inl ⟨?hw_3, ?hy_3⟩) ?hs_3 ?rest_3; (case h2_3 => kernel_rfl); (case h3_3 => kernel_rfl); (case ho_3 => (simp only [List.getElem?_toArray, List.getElem?_cons_zero, List.getElem?_cons_succ]; rfl)); (case h1_3 => kernel_rfl); (case hq_3 => exact fun _ _ _ h => h); (case hw_3 => rfl); (case hy_3 => (intro w' hSw; (try simp only [S] at hSw); go_simp; (try with_reducible rfl))); (case hs_3 => assumption); (try simp only [Act.put, List.setIfInBounds_toArray, List.set_cons_zero, List.set_cons_succ])
                refine wpAnyH_take (i := 5) (oi := ?oi_4) (v := ?v_4) ?ho_4 ?h1_4 ?h2_4 ?h3_4 ?hq_4 (Or.inl ⟨?hw_4, ?hy_4⟩) ?hs_4 ?rest_4; (case h2_4 => kernel_rfl); (case h3_4 => kernel_rfl); (case ho_4 => (simp only [List.getElem?_toArray, List.getElem?_cons_zero, List.getElem?_cons_succ]; rfl)); (case h1_4 => kernel_rfl); (case hq_4 => exact fun _ _ _ h => h); (case hw_4 => rfl); (case hy_4 => (intro w' hSw; (try simp only [S] at hSw); go_simp; (try with_reducible rfl))); (case hs_4 => assumption); (try simp only [Act.put, List.setIfInBounds_toArray, List.set_cons_zero, List.set_cons_succ])
                refine wpAnyH_take (i := 6) (oi := ?oi_58) (v := ?v_58) ?ho_58 ?h1_58 ?h2_58 ?h3_58 ?hq_58 (Or.inl ⟨?hw_58, ?hy_58⟩) ?hs_58 ?rest_58; (case h2_58 => kernel_rfl); (case h3_58 => kernel_rfl); (case ho_58 => (simp only [List.getElem?_toArray, List.getElem?_cons_zero, List.getElem?_cons_succ]; rfl)); (case h1_58 => kernel_rfl); (case hq_58 => exact fun _ _ _ h => h); (case hw_58 => rfl); (case hy_58 => (intro w' hSw; have hq := re w' hSw; go_simp; (try with_reducible rfl))); (case hs_58 => assumption); (try simp only [Act.put, List.setIfInBounds_toArray, List.set_cons_zero, List.set_cons_succ])
                refine wpAnyH_ready (rs := [7]) (by kernel_rfl) (by simp) (AllReadyH.cons (o := ?oo7_64) ?hoo7_64 (fun K hK => ?steponly64) AllReadyH.nil); (case hoo7_64 => (simp only [List.getElem?_toArray, List.getElem?_cons_zero, List.getElem?_cons_succ]; rfl))
                go_simp
                refine Calls.mono (rf _ hS0) ?_
                rintro e w47 ⟨rfl, hb⟩
                have hS1 : S w47 := hS0.trans (hb.mono (Nat.le_refl _))
                refine hK.out _ _ hS1 (fun _ => ?_)
                clear hK K
                (try simp only [Act.put, List.setIfInBounds_toArray, List.set_cons_zero, List.set_cons_succ])
                refine wpAnyH_take (i := 8) (oi := ?oi_5) (v := ?v_5) ?ho_5 ?h1_5 ?h2_5 ?h3_5 ?hq_5 (Or.inl ⟨?hw_5, ?hy_5⟩) ?hs_5 ?rest_5; (case h2_5 => kernel_rfl); (case h3_5 => kernel_rfl); (case ho_5 => (simp only [List.getElem?_toArray, List.getElem?_cons_zero, List.getElem?_cons_succ]; rfl)); (case h1_5 => kernel_rfl); (case hq_5 => exact fun _ _ _ h => h); (case hw_5 => rfl); (case hy_5 => (intro w' hSw; (try simp only [S] at hSw); go_simp; (try with_reducible rfl))); (case hs_5 => assumption); (try simp only [Act.put, List.setIfInBounds_toArray, List.set_cons_zero, List.set_cons_succ])
                refine wpAnyH_take (i := 9) (oi := ?oi_6) (v := ?v_6) ?ho_6 ?h1_6 ?h2_6 ?h3_6 ?hq_6 (Or.inl ⟨?hw_6, ?hy_6⟩) ?hs_6 ?rest_6; (case h2_6 => kernel_rfl); (case h3_6 => kernel_rfl); (case ho_6 => (simp only [List.getElem?_toArray, List.getElem?_cons_zero, List.getElem?_cons_succ]; rfl)); (case h1_6 => kernel_rfl); (case hq_6 => exact fun _ _ _ h => h); (case hw_6 => rfl); (case hy_6 => (intro w' hSw; (try simp only [S] at hSw); go_simp; (try with_reducible rfl))); (case hs_6 => assumption); (try simp only [Act.put, List.setIfInBounds_toArray, List.set_cons_zero, List.set_cons_succ])
                refine wpAnyH_take (i := 10) (oi := ?oi_7) (v := ?v_7) ?ho_7 ?h1_7 ?h2_7 ?h3_7 ?hq_7 (Or.inl ⟨?hw_7, ?hy_7⟩) ?hs_7 ?rest_7; (case h2_7 => kernel_rfl); (case h3_7 => kernel_rfl); (case ho_7 => (simp only [List.getElem?_toArray, List.getElem?_cons_zero, List.getElem?_cons_succ]; rfl)); (case h1_7 => kernel_rfl); (case hq_7 => exact fun _ _ _ h => h); (case hw_7 => rfl); (case hy_7 => (intro w' hSw; (try simp only [S] at hSw); go_simp; (try with_reducible rfl))); (case hs_7 => assumption); (try simp only [Act.put, List.setIfInBounds_toArray, List.set_cons_zero, List.set_cons_succ])
                refine wpAnyH_take (i := 11) (oi := ?oi_8) (v := ?v_8) ?ho_8 ?h1_8 ?h2_8 ?h3_8 ?hq_8 (Or.inl ⟨?hw_8, ?hy_8⟩) ?hs_8 ?rest_8; (case h2_8 => kernel_rfl); (case h3_8 => kernel_rfl); (case ho_8 => (simp only [List.getElem?_toArray, List.getElem?_cons_zero, List.getElem?_cons_succ]; rfl)); (case h1_8 => kernel_rfl); (case hq_8 => exact fun _ _ _ h => h); (case hw_8 => rfl); (case hy_8 => (intro w' hSw; (try simp only [S] at hSw); go_simp; (try with_reducible rfl))); (case hs_8 => assumption); (try simp only [Act.put, List.setIfInBounds_toArray, List.set_cons_zero, List.set_cons_succ])
                refine wpAnyH_take (i := 12) (oi := ?oi_9) (v := ?v_9) ?ho_9 ?h1_9 ?h2_9 ?h3_9 ?hq_9 (Or.inl ⟨?hw_9, ?hy_9⟩) ?hs_9 ?rest_9; (case h2_9 => kernel_rfl); (case h3_9 => kernel_rfl); (case ho_9 => (simp only [List.getElem?_toArray, List.getElem?_cons_zero, List.getElem?_cons_succ]; rfl)); (case h1_9 => kernel_rfl); (case hq_9 => exact fun _ _ _ h => h); (case hw_9 => rfl); (case hy_9 => (intro w' hSw; (try simp only [S] at hSw); go_simp; (try with_reducible rfl))); (case hs_9 => assumption); (try simp only [Act.put, List.setIfInBounds_toArray, List.set_cons_zero, List.set_cons_succ])
                refine wpAnyH_done (by kernel_rfl) ?_ _
                go_wp2_with fail
                go_meet
                exact ⟨rfl, rfl, hS1⟩
              case rest =>
                obtain ⟨rfl, rfl, hbx⟩ := hcut
                replace e0 := (hbx.cell (p := ⟨b1, o1 + j * 33, none⟩) hbl).trans e0
                replace c1 := (hbx.cell (p := ⟨w.heap.size, 1, none⟩) hwl).trans c1
                have hb2 := H1.out.1.trans (hbx.mono H1.out.1.size)
                go_upto_region 20 with (fail)
                have hwl' : w.heap.size < wc.heap.size := by have := hbx.size; omega
                have hbl' : b1 < wc.heap.size := by have := hbx.size; omega
                have hpl' : pb < wc.heap.size := by have := hbx.size; omega
                have k0 := (hb2.cell (p := ⟨pb, ob + t, none⟩) hpb).trans HK.out.1
                have k1 := (hb2.cell (p := ⟨pb, ob + (t + 1), none⟩) hpb).trans HK.out.2
                have H2 := Lib.hid hb2
                let S : World → Prop := fun w' => Below wc.heap.size wc w'
                have hS0 : S wc.drew := (Below.refl _ _).drew
                have rc := fun w' (h : S w') => ((show Below wc.heap.size wc w' from h).cell (p := ⟨w.heap.size, 1, none⟩) hwl').trans c1
                have re := fun w' (h : S w') => ((show Below wc.heap.size wc w' from h).cell (p := ⟨b1, o1 + j * 33, none⟩) hbl').trans e0
                have r0 := fun w' (h : S w') => ((show Below wc.heap.size wc w' from h).cell (p := ⟨pb, ob + t, none⟩) hpl').trans k0
                have r1 := fun w' (h : S w') => ((show Below wc.heap.size wc w' from h).cell (p := ⟨pb, ob + (t + 1), none⟩) hpl').trans k1
                have rb := fun w' (h : S w') c c' => bytes_eqT (c := c) (c' := c') w' (H1.out.2.1.below (H2.out.trans (Below.mono h H2.out.size))) (H1.out.2.2.below (H2.out.trans (Below.mono h H2.out.size)))
                have qa0 : (t : Int) < (n6 : Int) := by omega
                have qa1 : (t : Int) + 1 < (n6 : Int) := by omega
                have qa2 : (t : Int) + 2 ≤ (t : Int) + 34 := by omega
                have qa4 : ¬ (n6 : Int) < (t : Int) + 34 := by omega
                have ra0 : t < n6 := by omega
                have ra1 : t + 1 < n6 := by omega
                have ra4 : t + 34 ≤ c6 := by omega
                have pa1 : (0 : Int) ≤ (t : Int) + 1 := by omega
                have pa2 : (0 : Int) ≤ (t : Int) + 2 := by omega
                have pa4 : (t : Int) + 34 ≤ (c6 : Int) := by omega
                have hc2 : ¬ c6 = t + 2 := by omega
                have hd34 : t + 34 - (t + 2) = 32 := by omega
                clear c1 e0 k0 k1 hb2 hbx
                refine wp_region_held (S := S) (by kernel_rfl) ?_
                change wpAnyH _ _ _ _ S _ _ _ wc.drew
                refine wpAnyH_take (i := 0) (oi := ?oi_10) (v := ?v_10) ?ho_10 ?h1_10 ?h2_10 ?h3_10 ?hq_10 (Or.inl ⟨?hw_10, ?hy_10⟩) ?hs_10 ?rest_10; (case h2_10 => kernel_rfl); (case h3_10 => kernel_rfl); (case ho_10 => (simp only [List.getElem?_toArray, List.getElem?_cons_zero, List.getElem?_cons_succ]; rfl)); (case h1_10 => kernel_rfl); (case hq_10 => exact fun _ _ _ h => h); (case hw_10 => rfl); (case hy_10 => (intro w' hSw; (try simp only [S] at hSw); go_simp; (try with_reducible rfl))); (case hs_10 => assumption); (try simp only [Act.put, List.setIfInBounds_toArray, List.set_cons_zero, List.set_cons_succ])
                refine wpAnyH_take (i := 1) (oi := ?oi_11) (v := ?v_11) ?ho_11 ?h1_11 ?h2_11 ?h3_11 ?hq_11 (Or.inl ⟨?hw_11, ?hy_11⟩) ?hs_11 ?rest_11; (case h2_11 => kernel_rfl); (case h3_11 => kernel_rfl); (case ho_11 => (simp only [List.getElem?_toArray, List.getElem?_cons_zero, List.getElem?_cons_succ]; rfl)); (case h1_11 => kernel_rfl); (case hq_11 => exact fun _ _ _ h => h); (case hw_11 => rfl); (case hy_11 => (intro w' hSw; (try simp only [S] at hSw); go_simp; (try with_reducible rfl))); (case hs_11 => assumption); (try simp only [Act.put, List.setIfInBounds_toArray, List.set_cons_zero, List.set_cons_succ])
                refine wpAnyH_take (i := 2) (oi := ?oi_12) (v := ?v_12) ?ho_12 ?h1_12 ?h2_12 ?h3_12 ?hq_12 (Or.inl ⟨?hw_12, ?hy_12⟩) ?hs_12 ?rest_12; (case h2_12 => kernel_rfl); (case h3_12 => kernel_rfl); (case ho_12 => (simp only [List.getElem?_toArray, List.getElem?_cons_zero, List.getElem?_cons_succ]; rfl)); (case h1_12 => kernel_rfl); (case hq_12 => exact fun _ _ _ h => h); (case hw_12 => rfl); (case hy_12 => (intro w' hSw; (try simp only [S] at hSw); go_simp; (try with_reducible rfl))); (case hs_12 => assumption); (try simp only [Act.put, List.setIfInBounds_toArray, List.set_cons_zero, List.set_cons_succ])
                refine wpAnyH_take (i := 3) (oi := ?oi_13) (v := ?v_13) ?ho_13 ?h1_13 ?h2_13 ?h3_13 ?hq_13 (Or.inl ⟨?hw_13, ?hy_13⟩) ?hs_13 ?rest_13; (case h2_13 => kernel_rfl); (case h3_13 => kernel_rfl); (case ho_13 => (simp only [List.getElem?_toArray, List.getElem?_cons_zero, List.getElem?_cons_succ]; rfl)); (case h1_13 => kernel_rfl); (case hq_13 => exact fun _ _ _ h => h); (case hw_13 => rfl); (case hy_13 => (intro w' hSw; (try simp only [S] at hSw); go_simp; (try with_reducible rfl))); (case hs_13 => assumption); (try simp only [Act.put, List.setIfInBounds_toArray, List.set_cons_zero, List.set_cons_succ])
                refine wpAnyH_take (i := 4) (oi := ?oi_14) (v := ?v_14) ?ho_14 ?h1_14 ?h2_14 ?h3_14 ?hq_14 (Or.inl ⟨?hw_14, ?hy_14⟩) ?hs_14 ?rest_14; (case h2_14 => kernel_rfl); (case h3_14 => kernel_rfl); (case ho_14 => (simp only [List.getElem?_toArray, List.getElem?_cons_zero, List.getElem?_cons_succ]; rfl)); (case h1_14 => kernel_rfl); (case hq_14 => exact fun _ _ _ h => h); (case hw_14 => rfl); (case hy_14 => (intro w' hSw; (try simp only [S] at hSw); go_simp; (try with_reducible rfl))); (case hs_14 => assumption); (try simp only [Act.put, List.setIfInBounds_toArray, List.set_cons_zero, List.set_cons_succ])
                refine wpAnyH_take (i := 5) (oi := ?oi_15) (v := ?v_15) ?ho_15 ?h1_15 ?h2_15 ?h3_15 ?hq_15 (Or.inl ⟨?hw_15, ?hy_15⟩) ?hs_15 ?rest_15; (case h2_15 => kernel_rfl); (case h3_15 => kernel_rfl); (case ho_15 => (simp only [List.getElem?_toArray, List.getElem?_cons_zero, List.getElem?_cons_succ]; rfl)); (case h1_15 => kernel_rfl); (case hq_15 => exact fun _ _ _ h => h); (case hw_15 => rfl); (case hy_15 => (intro w' hSw; (try simp only [S] at hSw); go_simp; (try with_reducible rfl))); (case hs_15 => assumption); (try simp only [Act.put, List.setIfInBounds_toArray, List.set_cons_zero, List.set_cons_succ])
                refine wpAnyH_take (i := 6) (oi := ?oi_16) (v := ?v_16) ?ho_16 ?h1_16 ?h2_16 ?h3_16 ?hq_16 (Or.inl ⟨?hw_16, ?hy_16⟩) ?hs_16 ?rest_16; (case h2_16 => kernel_rfl); (case h3_16 => kernel_rfl); (case ho_16 => (simp only [List.getElem?_toArray, List.getElem?_cons_zero, List.getElem?_cons_succ]; rfl)); (case h1_16 => kernel_rfl); (case hq_16 => exact fun _ _ _ h => h); (case hw_16 => rfl); (case hy_16 => (intro w' hSw; (try simp only [S] at hSw); go_simp; (try with_reducible rfl))); (case hs_16 => assumption); (try simp only [Act.put, List.setIfInBounds_toArray, List.set_cons_zero, List.set_cons_succ])
                refine wpAnyH_take (i := 7) (oi := ?oi_17) (v := ?v_17) ?ho_17 ?h1_17 ?h2_17 ?h3_17 ?hq_17 (Or.inl ⟨?hw_17, ?hy_17⟩) ?hs_17 ?rest_17; (case h2_17 => kernel_rfl); (case h3_17 => kernel_rfl); (case ho_17 => (simp only [List.getElem?_toArray, List.getElem?_cons_zero, List.getElem?_cons_succ]; rfl)); (case h1_17 => kernel_rfl); (case hq_17 => exact fun _ _ _ h => h); (case hw_17 => rfl); (case hy_17 => (intro w' hSw; (try simp only [S] at hSw); go_simp; (try with_reducible rfl))); (case hs_17 => assumption); (try simp only [Act.put, List.setIfInBounds_toArray, List.set_cons_zero, List.set_cons_succ])
                refine wpAnyH_take (i := 8) (oi := ?oi_18) (v := ?v_18) ?ho_18 ?h1_18 ?h2_18 ?h3_18 ?hq_18 (Or.inl ⟨?hw_18, ?hy_18⟩) ?hs_18 ?rest_18; (case h2_18 => kernel_rfl); (case h3_18 => kernel_rfl); (case ho_18 => (simp only [List.getElem?_toArray, List.getElem?_cons_zero, List.getElem?_cons_succ]; rfl)); (case h1_18 => kernel_rfl); (case hq_18 => exact fun _ _ _ h => h); (case hw_18 => rfl); (case hy_18 => (intro w' hSw; (try simp only [S] at hSw); go_simp; (try with_reducible rfl))); (case hs_18 => assumption); (try simp only [Act.put, List.setIfInBounds_toArray, List.set_cons_zero, List.set_cons_succ])
                refine wpAnyH_take (i := 9) (oi := ?oi_19) (v := ?v_19) ?ho_19 ?h1_19 ?h2_19 ?h3_19 ?hq_19 (Or.inl ⟨?hw_19, ?hy_19⟩) ?hs_19 ?rest_19; (case h2_19 => kernel_rfl); (case h3_19 => kernel_rfl); (case ho_19 => (simp only [List.getElem?_toArray, List.getElem?_cons_zero, List.getElem?_cons_succ]; rfl)); (case h1_19 => kernel_rfl); (case hq_19 => exact fun _ _ _ h => h); (case hw_19 => rfl); (case hy_19 => (intro w' hSw; (try simp only [S] at hSw); go_simp; (try with_reducible rfl))); (case hs_19 => assumption); (try simp only [Act.put, List.setIfInBounds_toArray, List.set_cons_zero, List.set_cons_succ])
                refine wpAnyH_take (i := 10) (oi := ?oi_20) (v := ?v_20) ?ho_20 ?h1_20 ?h2_20 ?h3_20 ?hq_20 (Or.inl ⟨?hw_20, ?hy_20⟩) ?hs_20 ?rest_20; (case h2_20 => kernel_rfl); (case h3_20 => kernel_rfl); (case ho_20 => (simp only [List.getElem?_toArray, List.getElem?_cons_zero, List.getElem?_cons_succ]; rfl)); (case h1_20 => kernel_rfl); (case hq_20 => exact fun _ _ _ h => h); (case hw_20 => rfl); (case hy_20 => (intro w' hSw; (try simp only [S] at hSw); go_simp; (try with_reducible rfl))); (case hs_20 => assumption); (try simp only [Act.put, List.setIfInBounds_toArray, List.set_cons_zero, List.set_cons_succ])
                refine wpAnyH_take (i := 11) (oi := ?oi_21) (v := ?v_21) ?ho_21 ?h1_21 ?h2_21 ?h3_21 ?hq_21 (Or.inl ⟨?hw_21, ?hy_21⟩) ?hs_21 ?rest_21; (case h2_21 => kernel_rfl); (case h3_21 => kernel_rfl); (case ho_21 => (simp only [List.getElem?_toArray, List.getElem?_cons_zero, List.getElem?_cons_succ]; rfl)); (case h1_21 => kernel_rfl); (case hq_21 => exact fun _ _ _ h => h); (case hw_21 => rfl); (case hy_21 => (intro w' hSw; (try simp only [S] at hSw); go_simp; (try with_reducible rfl))); (case hs_21 => assumption); (try simp only [Act.put, List.setIfInBounds_toArray, List.set_cons_zero, List.set_cons_succ])
                refine wpAnyH_take (i := 12) (oi := ?oi_22) (v := ?v_22) ?ho_22 ?h1_22 ?h2_22 ?h3_22 ?hq_22 (Or.inl ⟨?hw_22, ?hy_22⟩) ?hs_22 ?rest_22; (case h2_22 => kernel_rfl); (case h3_22 => kernel_rfl); (case ho_22 => (simp only [List.getElem?_toArray, List.getElem?_cons_zero, List.getElem?_cons_succ]; rfl)); (case h1_22 => kernel_rfl); (case hq_22 => exact fun _ _ _ h => h); (case hw_22 => rfl); (case hy_22 => (intro w' hSw; (try simp only [S] at hSw); go_simp; (try with_reducible rfl))); (case hs_22 => assumption); (try simp only [Act.put, List.setIfInBounds_toArray, List.set_cons_zero, List.set_cons_succ])
                refine wpAnyH_take (i := 13) (oi := ?oi_23) (v := ?v_23) ?ho_23 ?h1_23 ?h2_23 ?h3_23 ?hq_23 (Or.inl ⟨?hw_23, ?hy_23⟩) ?hs_23 ?rest_23; (case h2_23 => kernel_rfl); (case h3_23 => kernel_rfl); (case ho_23 => (simp only [List.getElem?_toArray, List.getElem?_cons_zero, List.getElem?_cons_succ]; rfl)); (case h1_23 => kernel_rfl); (case hq_23 => exact fun _ _ _ h => h); (case hw_23 => rfl); (case hy_23 => (intro w' hSw; (try simp only [S] at hSw); go_simp; (try with_reducible rfl))); (case hs_23 => assumption); (try simp only [Act.put, List.setIfInBounds_toArray, List.set_cons_zero, List.set_cons_succ])
                refine wpAnyH_take (i := 14) (oi := ?oi_24) (v := ?v_24) ?ho_24 ?h1_24 ?h2_24 ?h3_24 ?hq_24 (Or.inl ⟨?hw_24, ?hy_24⟩) ?hs_24 ?rest_24; (case h2_24 => kernel_rfl); (case h3_24 => kernel_rfl); (case ho_24 => (simp only [List.getElem?_toArray, List.getElem?_cons_zero, List.getElem?_cons_succ]; rfl)); (case h1_24 => kernel_rfl); (case hq_24 => exact fun _ _ _ h => h); (case hw_24 => rfl); (case hy_24 => (intro w' hSw; (try simp only [S] at hSw); go_simp; (try with_reducible rfl))); (case hs_24 => assumption); (try simp only [Act.put, List.setIfInBounds_toArray, List.set_cons_zero, List.set_cons_succ])
                refine wpAnyH_take (i := 15) (oi := ?oi_25) (v := ?v_25) ?ho_25 ?h1_25 ?h2_25 ?h3_25 ?hq_25 (Or.inl ⟨?hw_25, ?hy_25⟩) ?hs_25 ?rest_25; (case h2_25 => kernel_rfl); (case h3_25 => kernel_rfl); (case ho_25 => (simp only [List.getElem?_toArray, List.getElem?_cons_zero, List.getElem?_cons_succ]; rfl)); (case h1_25 => kernel_rfl); (case hq_25 => exact fun _ _ _ h => h); (case hw_25 => rfl); (case hy_25 => (intro w' hSw; (try simp only [S] at hSw); go_simp; (try with_reducible rfl))); (case hs_25 => assumption); (try simp only [Act.put, List.setIfInBounds_toArray, List.set_cons_zero, List.set_cons_succ])
                refine wpAnyH_take (i := 16) (oi := ?oi_26) (v := ?v_26) ?ho_26 ?h1_26 ?h2_26 ?h3_26 ?hq_26 (Or.inl ⟨?hw_26, ?hy_26⟩) ?hs_26 ?rest_26; (case h2_26 => kernel_rfl); (case h3_26 => kernel_rfl); (case ho_26 => (simp only [List.getElem?_toArray, List.getElem?_cons_zero, List.getElem?_cons_succ]; rfl)); (case h1_26 => kernel_rfl); (case hq_26 => exact fun _ _ _ h => h); (case hw_26 => rfl); (case hy_26 => (intro w' hSw; (try simp only [S] at hSw); go_simp; (try with_reducible rfl))); (case hs_26 => assumption); (try simp only [Act.put, List.setIfInBounds_toArray, List.set_cons_zero, List.set_cons_succ])
                refine wpAnyH_take (i := 17) (oi := ?oi_27) (v := ?v_27) ?ho_27 ?h1_27 ?h2_27 ?h3_27 ?hq_27 (Or.inl ⟨?hw_27, ?hy_27⟩) ?hs_27 ?rest_27; (case h2_27 => kernel_rfl); (case h3_27 => kernel_rfl); (case ho_27 => (simp only [List.getElem?_toArray, List.getElem?_cons_zero, List.getElem?_cons_succ]; rfl)); (case h1_27 => kernel_rfl); (case hq_27 => exact fun _ _ _ h => h); (case hw_27 => rfl); (case hy_27 => (intro w' hSw; (try simp only [S] at hSw); go_simp; (try with_reducible rfl))); (case hs_27 => assumption); (try simp only [Act.put, List.setIfInBounds_toArray, List.set_cons_zero, List.set_cons_succ])
                refine wpAnyH_take (i := 18) (oi := ?oi_59) (v := ?v_59) ?ho_59 ?h1_59 ?h2_59 ?h3_59 ?hq_59 (Or.inl ⟨?hw_59, ?hy_59⟩) ?hs_59 ?rest_59; (case h2_59 => kernel_rfl); (case h3_59 => kernel_rfl); (case ho_59 => (simp only [List.getElem?_toArray, List.getElem?_cons_zero, List.getElem?_cons_succ]; rfl)); (case h1_59 => kernel_rfl); (case hq_59 => exact fun _ _ _ h => h); (case hw_59 => rfl); (case hy_59 => (intro w' hSw; have hq := r0 w' hSw; go_simp; (try with_reducible rfl))); (case hs_59 => assumption); (try simp only [Act.put, List.setIfInBounds_toArray, List.set_cons_zero, List.set_cons_succ])
                refine wpAnyH_take (i := 19) (oi := ?oi_28) (v := ?v_28) ?ho_28 ?h1_28 ?h2_28 ?h3_28 ?hq_28 (Or.inl ⟨?hw_28, ?hy_28⟩) ?hs_28 ?rest_28; (case h2_28 => kernel_rfl); (case h3_28 => kernel_rfl); (case ho_28 => (simp only [List.getElem?_toArray, List.getElem?_cons_zero, List.getElem?_cons_succ]; rfl)); (case h1_28 => kernel_rfl); (case hq_28 => exact fun _ _ _ h => h); (case hw_28 => rfl); (case hy_28 => (intro w' hSw; (try simp only [S] at hSw); go_simp; (try with_reducible rfl))); (case hs_28 => assumption); (try simp only [Act.put, List.setIfInBounds_toArray, List.set_cons_zero, List.set_cons_succ])
                refine wpAnyH_take (i := 20) (oi := ?oi_29) (v := ?v_29) ?ho_29 ?h1_29 ?h2_29 ?h3_29 ?hq_29 (Or.inl ⟨?hw_29, ?hy_29⟩) ?hs_29 ?rest_29; (case h2_29 => kernel_rfl); (case h3_29 => kernel_rfl); (case ho_29 => (simp only [List.getElem?_toArray, List.getElem?_cons_zero, List.getElem?_cons_succ]; rfl)); (case h1_29 => kernel_rfl); (case hq_29 => exact fun _ _ _ h => h); (case hw_29 => rfl); (case hy_29 => (intro w' hSw; (try simp only [S] at hSw); go_simp; (try with_reducible rfl))); (case hs_29 => assumption); (try simp only [Act.put, List.setIfInBounds_toArray, List.set_cons_zero, List.set_cons_succ])
                refine wpAnyH_take (i := 21) (oi := ?oi_30) (v := ?v_30) ?ho_30 ?h1_30 ?h2_30 ?h3_30 ?hq_30 (Or.inl ⟨?hw_30, ?hy_30⟩) ?hs_30 ?rest_30; (case h2_30 => kernel_rfl); (case h3_30 => kernel_rfl); (case ho_30 => (simp only [List.getElem?_toArray, List.getElem?_cons_zero, List.getElem?_cons_succ]; rfl)); (case h1_30 => kernel_rfl); (case hq_30 => exact fun _ _ _ h => h); (case hw_30 => rfl); (case hy_30 => (intro w' hSw; (try simp only [S] at hSw); go_simp; (try with_reducible rfl))); (case hs_30 => assumption); (try simp only [Act.put, List.setIfInBounds_toArray, List.set_cons_zero, List.set_cons_succ])
                refine wpAnyH_take (i := 22) (oi := ?oi_31) (v := ?v_31) ?ho_31 ?h1_31 ?h2_31 ?h3_31 ?hq_31 (Or.inl ⟨?hw_31, ?hy_31⟩) ?hs_31 ?rest_31; (case h2_31 => kernel_rfl); (case h3_31 => kernel_rfl); (case ho_31 => (simp only [List.getElem?_toArray, List.getElem?_cons_zero, List.getElem?_cons_succ]; rfl)); (case h1_31 => kernel_rfl); (case hq_31 => exact fun _ _ _ h => h); (case hw_31 => rfl); (case hy_31 => (intro w' hSw; (try simp only [S] at hSw); go_simp; (try with_reducible rfl))); (case hs_31 => assumption); (try simp only [Act.put, List.setIfInBounds_toArray, List.set_cons_zero, List.set_cons_succ])
                refine wpAnyH_take (i := 23) (oi := ?oi_32) (v := ?v_32) ?ho_32 ?h1_32 ?h2_32 ?h3_32 ?hq_32 (Or.inl ⟨?hw_32, ?hy_32⟩) ?hs_32 ?rest_32; (case h2_32 => kernel_rfl); (case h3_32 => kernel_rfl); (case ho_32 => (simp only [List.getElem?_toArray, List.getElem?_cons_zero, List.getElem?_cons_succ]; rfl)); (case h1_32 => kernel_rfl); (case hq_32 => exact fun _ _ _ h => h); (case hw_32 => rfl); (case hy_32 => (intro w' hSw; (try simp only [S] at hSw); go_simp; (try with_reducible rfl))); (case hs_32 => assumption); (try simp only [Act.put, List.setIfInBounds_toArray, List.set_cons_zero, List.set_cons_succ])
                refine wpAnyH_take (i := 24) (oi := ?oi_33) (v := ?v_33) ?ho_33 ?h1_33 ?h2_33 ?h3_33 ?hq_33 (Or.inl ⟨?hw_33, ?hy_33⟩) ?hs_33 ?rest_33; (case h2_33 => kernel_rfl); (case h3_33 => kernel_rfl); (case ho_33 => (simp only [List.getElem?_toArray, List.getElem?_cons_zero, List.getElem?_cons_succ]; rfl)); (case h1_33 => kernel_rfl); (case hq_33 => exact fun _ _ _ h => h); (case hw_33 => rfl); (case hy_33 => (intro w' hSw; (try simp only [S] at hSw); go_simp; (try with_reducible rfl))); (case hs_33 => assumption); (try simp only [Act.put, List.setIfInBounds_toArray, List.set_cons_zero, List.set_cons_succ])
                refine wpAnyH_take (i := 25) (oi := ?oi_60) (v := ?v_60) ?ho_60 ?h1_60 ?h2_60 ?h3_60 ?hq_60 (Or.inl ⟨?hw_60, ?hy_60⟩) ?hs_60 ?rest_60; (case h2_60 => kernel_rfl); (case h3_60 => kernel_rfl); (case ho_60 => (simp only [List.getElem?_toArray, List.getElem?_cons_zero, List.getElem?_cons_succ]; rfl)); (case h1_60 => kernel_rfl); (case hq_60 => exact fun _ _ _ h => h); (case hw_60 => rfl); (case hy_60 => (intro w' hSw; have hq := r1 w' hSw; go_simp; (try with_reducible rfl))); (case hs_60 => assumption); (try simp only [Act.put, List.setIfInBounds_toArray, List.set_cons_zero, List.set_cons_succ])
                refine wpAnyH_take (i := 26) (oi := ?oi_34) (v := ?v_34) ?ho_34 ?h1_34 ?h2_34 ?h3_34 ?hq_34 (Or.inl ⟨?hw_34, ?hy_34⟩) ?hs_34 ?rest_34; (case h2_34 => kernel_rfl); (case h3_34 => kernel_rfl); (case ho_34 => (simp only [List.getElem?_toArray, List.getElem?_cons_zero, List.getElem?_cons_succ]; rfl)); (case h1_34 => kernel_rfl); (case hq_34 => exact fun _ _ _ h => h); (case hw_34 => rfl); (case hy_34 => (intro w' hSw; (try simp only [S] at hSw); go_simp; (try with_reducible rfl))); (case hs_34 => assumption); (try simp only [Act.put, List.setIfInBounds_toArray, List.set_cons_zero, List.set_cons_succ])
                refine wpAnyH_take (i := 27) (oi := ?oi_35) (v := ?v_35) ?ho_35 ?h1_35 ?h2_35 ?h3_35 ?hq_35 (Or.inl ⟨?hw_35, ?hy_35⟩) ?hs_35 ?rest_35; (case h2_35 => kernel_rfl); (case h3_35 => kernel_rfl); (case ho_35 => (simp only [List.getElem?_toArray, List.getElem?_cons_zero, List.getElem?_cons_succ]; rfl)); (case h1_35 => kernel_rfl); (case hq_35 => exact fun _ _ _ h => h); (case hw_35 => rfl); (case hy_35 => (intro w' hSw; (try simp only [S] at hSw); go_simp; (try with_reducible rfl))); (case hs_35 => assumption); (try simp only [Act.put, List.setIfInBounds_toArray, List.set_cons_zero, List.set_cons_succ])
                refine wpAnyH_take (i := 28) (oi := ?oi_36) (v := ?v_36) ?ho_36 ?h1_36 ?h2_36 ?h3_36 ?hq_36 (Or.inl ⟨?hw_36, ?hy_36⟩) ?hs_36 ?rest_36; (case h2_36 => kernel_rfl); (case h3_36 => kernel_rfl); (case ho_36 => (simp only [List.getElem?_toArray, List.getElem?_cons_zero, List.getElem?_cons_succ]; rfl)); (case h1_36 => kernel_rfl); (case hq_36 => exact fun _ _ _ h => h); (case hw_36 => rfl); (case hy_36 => (intro w' hSw; (try simp only [S] at hSw); go_simp; (try with_reducible rfl))); (case hs_36 => assumption); (try simp only [Act.put, List.setIfInBounds_toArray, List.set_cons_zero, List.set_cons_succ])
                refine wpAnyH_take (i := 29) (oi := ?oi_61) (v := ?v_61) ?ho_61 ?h1_61 ?h2_61 ?h3_61 ?hq_61 (Or.inl ⟨?hw_61, ?hy_61⟩) ?hs_61 ?rest_61; (case h2_61 => kernel_rfl); (case h3_61 => kernel_rfl); (case ho_61 => (simp only [List.getElem?_toArray, List.getElem?_cons_zero, List.getElem?_cons_succ]; rfl)); (case h1_61 => kernel_rfl); (case hq_61 => exact fun _ _ _ h => h); (case hw_61 => rfl); (case hy_61 => (intro w' hSw; have hq := rc w' hSw; go_simp; (try with_reducible rfl))); (case hs_61 => assumption); (try simp only [Act.put, List.setIfInBounds_toArray, List.set_cons_zero, List.set_cons_succ])
                refine wpAnyH_take (i := 30) (oi := ?oi_37) (v := ?v_37) ?ho_37 ?h1_37 ?h2_37 ?h3_37 ?hq_37 (Or.inl ⟨?hw_37, ?hy_37⟩) ?hs_37 ?rest_37; (case h2_37 => kernel_rfl); (case h3_37 => kernel_rfl); (case ho_37 => (simp only [List.getElem?_toArray, List.getElem?_cons_zero, List.getElem?_cons_succ]; rfl)); (case h1_37 => kernel_rfl); (case hq_37 => exact fun _ _ _ h => h); (case hw_37 => rfl); (case hy_37 => (intro w' hSw; (try simp only [S] at hSw); go_simp; (try with_reducible rfl))); (case hs_37 => assumption); (try simp only [Act.put, List.setIfInBounds_toArray, List.set_cons_zero, List.set_cons_succ])
                refine wpAnyH_take (i := 31) (oi := ?oi_38) (v := ?v_38) ?ho_38 ?h1_38 ?h2_38 ?h3_38 ?hq_38 (Or.inl ⟨?hw_38, ?hy_38⟩) ?hs_38 ?rest_38; (case h2_38 => kernel_rfl); (case h3_38 => kernel_rfl); (case ho_38 => (simp only [List.getElem?_toArray, List.getElem?_cons_zero, List.getElem?_cons_succ]; rfl)); (case h1_38 => kernel_rfl); (case hq_38 => exact fun _ _ _ h => h); (case hw_38 => rfl); (case hy_38 => (intro w' hSw; (try simp only [S] at hSw); go_simp; (try with_reducible rfl))); (case hs_38 => assumption); (try simp only [Act.put, List.setIfInBounds_toArray, List.set_cons_zero, List.set_cons_succ])
                refine wpAnyH_take (i := 32) (oi := ?oi_39) (v := ?v_39) ?ho_39 ?h1_39 ?h2_39 ?h3_39 ?hq_39 (Or.inl ⟨?hw_39, ?hy_39⟩) ?hs_39 ?rest_39; (case h2_39 => kernel_rfl); (case h3_39 => kernel_rfl); (case ho_39 => (simp only [List.getElem?_toArray, List.getElem?_cons_zero, List.getElem?_cons_succ]; rfl)); (case h1_39 => kernel_rfl); (case hq_39 => exact fun _ _ _ h => h); (case hw_39 => rfl); (case hy_39 => (intro w' hSw; (try simp only [S] at hSw); go_simp; (try with_reducible rfl))); (case hs_39 => assumption); (try simp only [Act.put, List.setIfInBounds_toArray, List.set_cons_zero, List.set_cons_succ])
                refine wpAnyH_take (i := 33) (oi := ?oi_62) (v := ?v_62) ?ho_62 ?h1_62 ?h2_62 ?h3_62 ?hq_62 (Or.inl ⟨?hw_62, ?hy_62⟩) ?hs_62 ?rest_62; (case h2_62 => kernel_rfl); (case h3_62 => kernel_rfl); (case ho_62 => (simp only [List.getElem?_toArray, List.getElem?_cons_zero, List.getElem?_cons_succ]; rfl)); (case h1_62 => kernel_rfl); (case hq_62 => exact fun _ _ _ h => h); (case hw_62 => rfl); (case hy_62 => (intro w' hSw; have hq := re w' hSw; go_simp; (try with_reducible rfl))); (case hs_62 => assumption); (try simp only [Act.put, List.setIfInBounds_toArray, List.set_cons_zero, List.set_cons_succ])
                refine wpAnyH_take (i := 34) (oi := ?oi_40) (v := ?v_40) ?ho_40 ?h1_40 ?h2_40 ?h3_40 ?hq_40 (Or.inl ⟨?hw_40, ?hy_40⟩) ?hs_40 ?rest_40; (case h2_40 => kernel_rfl); (case h3_40 => kernel_rfl); (case ho_40 => (simp only [List.getElem?_toArray, List.getElem?_cons_zero, List.getElem?_cons_succ]; rfl)); (case h1_40 => kernel_rfl); (case hq_40 => exact fun _ _ _ h => h); (case hw_40 => rfl); (case hy_40 => (intro w' hSw; (try simp only [S] at hSw); go_simp; (try with_reducible rfl))); (case hs_40 => assumption); (try simp only [Act.put, List.setIfInBounds_toArray, List.set_cons_zero, List.set_cons_succ])
                refine wpAnyH_take (i := 35) (oi := ?oi_41) (v := ?v_41) ?ho_41 ?h1_41 ?h2_41 ?h3_41 ?hq_41 (Or.inl ⟨?hw_41, ?hy_41⟩) ?hs_41 ?rest_41; (case h2_41 => kernel_rfl); (case h3_41 => kernel_rfl); (case ho_41 => (simp only [List.getElem?_toArray, List.getElem?_cons_zero, List.getElem?_cons_succ]; rfl)); (case h1_41 => kernel_rfl); (case hq_41 => exact fun _ _ _ h => h); (case hw_41 => rfl); (case hy_41 => (intro w' hSw; (try simp only [S] at hSw); go_simp; (try with_reducible rfl))); (case hs_41 => assumption); (try simp only [Act.put, List.setIfInBounds_toArray, List.set_cons_zero, List.set_cons_succ])
                refine wpAnyH_take (i := 36) (oi := ?oi_42) (v := ?v_42) ?ho_42 ?h1_42 ?h2_42 ?h3_42 ?hq_42 (Or.inl ⟨?hw_42, ?hy_42⟩) ?hs_42 ?rest_42; (case h2_42 => kernel_rfl); (case h3_42 => kernel_rfl); (case ho_42 => (simp only [List.getElem?_toArray, List.getElem?_cons_zero, List.getElem?_cons_succ]; rfl)); (case h1_42 => kernel_rfl); (case hq_42 => exact fun _ _ _ h => h); (case hw_42 => rfl); (case hy_42 => (intro w' hSw; (try simp only [S] at hSw); go_simp; (try with_reducible rfl))); (case hs_42 => assumption); (try simp only [Act.put, List.setIfInBounds_toArray, List.set_cons_zero, List.set_cons_succ])
                refine wpAnyH_take (i := 37) (oi := ?oi_43) (v := ?v_43) ?ho_43 ?h1_43 ?h2_43 ?h3_43 ?hq_43 (Or.inl ⟨?hw_43, ?hy_43⟩) ?hs_43 ?rest_43; (case h2_43 => kernel_rfl); (case h3_43 => kernel_rfl); (case ho_43 => (simp only [List.getElem?_toArray, List.getElem?_cons_zero, List.getElem?_cons_succ]; rfl)); (case h1_43 => kernel_rfl); (case hq_43 => exact fun _ _ _ h => h); (case hw_43 => rfl); (case hy_43 => (intro w' hSw; (try simp only [S] at hSw); go_simp; (try with_reducible rfl))); (case hs_43 => assumption); (try simp only [Act.put, List.setIfInBounds_toArray, List.set_cons_zero, List.set_cons_succ])
                refine wpAnyH_take (i := 38) (oi := ?oi_44) (v := ?v_44) ?ho_44 ?h1_44 ?h2_44 ?h3_44 ?hq_44 (Or.inl ⟨?hw_44, ?hy_44⟩) ?hs_44 ?rest_44; (case h2_44 => kernel_rfl); (case h3_44 => kernel_rfl); (case ho_44 => (simp only [List.getElem?_toArray, List.getElem?_cons_zero, List.getElem?_cons_succ]; rfl)); (case h1_44 => kernel_rfl); (case hq_44 => exact fun _ _ _ h => h); (case hw_44 => rfl); (case hy_44 => (intro w' hSw; (try simp only [S] at hSw); go_simp; (try with_reducible rfl))); (case hs_44 => assumption); (try simp only [Act.put, List.setIfInBounds_toArray, List.set_cons_zero, List.set_cons_succ])
                refine wpAnyH_take (i := 39) (oi := ?oi_45) (v := ?v_45) ?ho_45 ?h1_45 ?h2_45 ?h3_45 ?hq_45 (Or.inl ⟨?hw_45, ?hy_45⟩) ?hs_45 ?rest_45; (case h2_45 => kernel_rfl); (case h3_45 => kernel_rfl); (case ho_45 => (simp only [List.getElem?_toArray, List.getElem?_cons_zero, List.getElem?_cons_succ]; rfl)); (case h1_45 => kernel_rfl); (case hq_45 => exact fun _ _ _ h => h); (case hw_45 => rfl); (case hy_45 => (intro w' hSw; (try simp only [S] at hSw); go_simp; (try with_reducible rfl))); (case hs_45 => assumption); (try simp only [Act.put, List.setIfInBounds_toArray, List.set_cons_zero, List.set_cons_succ])
                refine wpAnyH_take (i := 40) (oi := ?oi_46) (v := ?v_46) ?ho_46 ?h1_46 ?h2_46 ?h3_46 ?hq_46 (Or.inl ⟨?hw_46, ?hy_46⟩) ?hs_46 ?rest_46; (case h2_46 => kernel_rfl); (case h3_46 => kernel_rfl); (case ho_46 => (simp only [List.getElem?_toArray, List.getElem?_cons_zero, List.getElem?_cons_succ]; rfl)); (case h1_46 => kernel_rfl); (case hq_46 => exact fun _ _ _ h => h); (case hw_46 => rfl); (case hy_46 => (intro w' hSw; (try simp only [S] at hSw); go_simp; (try with_reducible rfl))); (case hs_46 => assumption); (try simp only [Act.put, List.setIfInBounds_toArray, List.set_cons_zero, List.set_cons_succ])
                refine wpAnyH_take (i := 41) (oi := ?oi_47) (v := ?v_47) ?ho_47 ?h1_47 ?h2_47 ?h3_47 ?hq_47 (Or.inl ⟨?hw_47, ?hy_47⟩) ?hs_47 ?rest_47; (case h2_47 => kernel_rfl); (case h3_47 => kernel_rfl); (case ho_47 => (simp only [List.getElem?_toArray, List.getElem?_cons_zero, List.getElem?_cons_succ]; rfl)); (case h1_47 => kernel_rfl); (case hq_47 => exact fun _ _ _ h => h); (case hw_47 => rfl); (case hy_47 => (intro w' hSw; (try simp only [S] at hSw); go_simp; (try with_reducible rfl))); (case hs_47 => assumption); (try simp only [Act.put, List.setIfInBounds_toArray, List.set_cons_zero, List.set_cons_succ])
                refine wpAnyH_take (i := 42) (oi := ?oi_48) (v := ?v_48) ?ho_48 ?h1_48 ?h2_48 ?h3_48 ?hq_48 (Or.inl ⟨?hw_48, ?hy_48⟩) ?hs_48 ?rest_48; (case h2_48 => kernel_rfl); (case h3_48 => kernel_rfl); (case ho_48 => (simp only [List.getElem?_toArray, List.getElem?_cons_zero, List.getElem?_cons_succ]; rfl)); (case h1_48 => kernel_rfl); (case hq_48 => exact fun _ _ _ h => h); (case hw_48 => rfl); (case hy_48 => (intro w' hSw; (try simp only [S] at hSw); go_simp; (try with_reducible rfl))); (case hs_48 => assumption); (try simp only [Act.put, List.setIfInBounds_toArray, List.set_cons_zero, List.set_cons_succ])
                refine wpAnyH_take (i := 43) (oi := ?oi_49) (v := ?v_49) ?ho_49 ?h1_49 ?h2_49 ?h3_49 ?hq_49 (Or.inl ⟨?hw_49, ?hy_49⟩) ?hs_49 ?rest_49; (case h2_49 => kernel_rfl); (case h3_49 => kernel_rfl); (case ho_49 => (simp only [List.getElem?_toArray, List.getElem?_cons_zero, List.getElem?_cons_succ]; rfl)); (case h1_49 => kernel_rfl); (case hq_49 => exact fun _ _ _ h => h); (case hw_49 => rfl); (case hy_49 => (intro w' hSw; (try simp only [S] at hSw); go_simp; (try with_reducible rfl))); (case hs_49 => assumption); (try simp only [Act.put, List.setIfInBounds_toArray, List.set_cons_zero, List.set_cons_succ])
                refine wpAnyH_take (i := 44) (oi := ?oi_63) (v := ?v_63) ?ho_63 ?h1_63 ?h2_63 ?h3_63 ?hq_63 (Or.inl ⟨?hw_63, ?hy_63⟩) ?hs_63 ?rest_63; (case h2_63 => kernel_rfl); (case h3_63 => kernel_rfl); (case ho_63 => (simp only [List.getElem?_toArray, List.getElem?_cons_zero, List.getElem?_cons_succ]; rfl)); (case h1_63 => kernel_rfl); (case hq_63 => exact fun _ _ _ h => h); (case hw_63 => rfl); (case hy_63 => (intro w' hSw; have hq := rc w' hSw; go_simp; (try with_reducible rfl))); (case hs_63 => assumption); (try simp only [Act.put, List.setIfInBounds_toArray, List.set_cons_zero, List.set_cons_succ])
                refine wpAnyH_take (i := 45) (oi := ?oi_50) (v := ?v_50) ?ho_50 ?h1_50 ?h2_50 ?h3_50 ?hq_50 (Or.inl ⟨?hw_50, ?hy_50⟩) ?hs_50 ?rest_50; (case h2_50 => kernel_rfl); (case h3_50 => kernel_rfl); (case ho_50 => (simp only [List.getElem?_toArray, List.getElem?_cons_zero, List.getElem?_cons_succ]; rfl)); (case h1_50 => kernel_rfl); (case hq_50 => exact fun _ _ _ h => h); (case hw_50 => rfl); (case hy_50 => (intro w' hSw; (try simp only [S] at hSw); go_simp; (try with_reducible rfl))); (case hs_50 => assumption); (try simp only [Act.put, List.setIfInBounds_toArray, List.set_cons_zero, List.set_cons_succ])
                refine wpAnyH_take (i := 46) (oi := ?oi_51) (v := ?v_51) ?ho_51 ?h1_51 ?h2_51 ?h3_51 ?hq_51 (Or.inl ⟨?hw_51, ?hy_51⟩) ?hs_51 ?rest_51; (case h2_51 => kernel_rfl); (case h3_51 => kernel_rfl); (case ho_51 => (simp only [List.getElem?_toArray, List.getElem?_cons_zero, List.getElem?_cons_succ]; rfl)); (case h1_51 => kernel_rfl); (case hq_51 => exact fun _ _ _ h => h); (case hw_51 => rfl); (case hy_51 => (intro w' hSw; (try simp only [S] at hSw); go_simp; (try with_reducible rfl))); (case hs_51 => assumption); (try simp only [Act.put, List.setIfInBounds_toArray, List.set_cons_zero, List.set_cons_succ])
                refine wpAnyH_take (i := 47) (oi := ?oi_52) (v := ?v_52) ?ho_52 ?h1_52 ?h2_52 ?h3_52 ?hq_52 (Or.inl ⟨?hw_52, ?hy_52⟩) ?hs_52 ?rest_52; (case h2_52 => kernel_rfl); (case h3_52 => kernel_rfl); (case ho_52 => (simp only [List.getElem?_toArray, List.getElem?_cons_zero, List.getElem?_cons_succ]; rfl)); (case h1_52 => kernel_rfl); (case hq_52 => exact fun _ _ _ h => h); (case hw_52 => rfl); (case hy_52 => (intro w' hSw; (try simp only [S] at hSw); go_simp; (try with_reducible rfl))); (case hs_52 => assumption); (try simp only [Act.put, List.setIfInBounds_toArray, List.set_cons_zero, List.set_cons_succ])
                refine wpAnyH_take (i := 48) (oi := ?oi_53) (v := ?v_53) ?ho_53 ?h1_53 ?h2_53 ?h3_53 ?hq_53 (Or.inl ⟨?hw_53, ?hy_53⟩) ?hs_53 ?rest_53; (case h2_53 => kernel_rfl); (case h3_53 => kernel_rfl); (case ho_53 => (simp only [List.getElem?_toArray, List.getElem?_cons_zero, List.getElem?_cons_succ]; rfl)); (case h1_53 => kernel_rfl); (case hq_53 => exact fun _ _ _ h => h); (case hw_53 => rfl); (case hy_53 => (intro w' hSw; (try simp only [S] at hSw); go_simp; (try with_reducible rfl))); (case hs_53 => assumption); (try simp only [Act.put, List.setIfInBounds_toArray, List.set_cons_zero, List.set_cons_succ])
                refine wpAnyH_ready (rs := [49]) (by kernel_rfl) (by simp) (AllReadyH.cons (o := ?oo49_65) ?hoo49_65 (fun K hK => ?steponly65) AllReadyH.nil); (case hoo49_65 => (simp only [List.getElem?_toArray, List.getElem?_cons_zero, List.getElem?_cons_succ]; rfl))
                go_simp
                refine Calls.mono (rb _ hS0 _ _) ?_
                rintro e w49 ⟨rfl, rfl⟩
                refine hK.out _ _ hS0 (fun _ => ?_)
                clear hK K
                (try simp only [Act.put, List.setIfInBounds_toArray, List.set_cons_zero, List.set_cons_succ])
                refine wpAnyH_take (i := 50) (oi := ?oi_54) (v := ?v_54) ?ho_54 ?h1_54 ?h2_54 ?h3_54 ?hq_54 (Or.inl ⟨?hw_54, ?hy_54⟩) ?hs_54 ?rest_54; (case h2_54 => kernel_rfl); (case h3_54 => kernel_rfl); (case ho_54 => (simp only [List.getElem?_toArray, List.getElem?_cons_zero, List.getElem?_cons_succ]; rfl)); (case h1_54 => kernel_rfl); (case hq_54 => exact fun _ _ _ h => h); (case hw_54 => rfl); (case hy_54 => (intro w' hSw; (try simp only [S] at hSw); go_simp; (try with_reducible rfl))); (case hs_54 => assumption); (try simp only [Act.put, List.setIfInBounds_toArray, List.set_cons_zero, List.set_cons_succ])
                refine wpAnyH_take (i := 51) (oi := ?oi_55) (v := ?v_55) ?ho_55 ?h1_55 ?h2_55 ?h3_55 ?hq_55 (Or.inl ⟨?hw_55, ?hy_55⟩) ?hs_55 ?rest_55; (case h2_55 => kernel_rfl); (case h3_55 => kernel_rfl); (case ho_55 => (simp only [List.getElem?_toArray, List.getElem?_cons_zero, List.getElem?_cons_succ]; rfl)); (case h1_55 => kernel_rfl); (case hq_55 => exact fun _ _ _ h => h); (case hw_55 => rfl); (case hy_55 => (intro w' hSw; (try simp only [S] at hSw); go_simp; (try with_reducible rfl))); (case hs_55 => assumption); (try simp only [Act.put, List.setIfInBounds_toArray, List.set_cons_zero, List.set_cons_succ])
                refine wpAnyH_done (by kernel_rfl) ?_ _
                go_wp2_with fail
                go_roundw
                case rel => exact ⟨j + 1, by omega, by go_num, H2.out.drew⟩
                case measure => simp [intOf]; omega
            · have hd1 : ¬ (j : Int) < (k : Int) := by omega
              obtain rfl : j = k := by omega
              have hfn := find_any (next := next) (c := c) next wr (HL.out.below hbr) hbr.size (by omega)
              rw [HF.out.2] at hfn
              have hrf : retF (-1) = .tuple #[.int .i64 0, .bool false] := rfl
              rw [hrf] at hfn
              unfold lgv at hfn
              have a1 := bBlk hbr l3 HA.out
              have c0 : wr.cell? ⟨w.heap.size, 0, none⟩ = some (.int .i64 next) := blk_cell a1 rfl
              have hB4 := HB.out.trans (hbr.mono HB.out.size)
              have HB4 := Lib.hid hB4
              clear hbr hB4
              go_upto_region 22 with (fail)
              refine wp_region_lit ?_
              refine wpList_load_row rfl 46 (.tmp 1) rfl _ rfl _ #[.int .i64 next, .slice A j c] (0, 0) _ a1 Try.underlying46 rfl (lg_info _ _) ?_
              (try simp only [Act.put, List.setIfInBounds_toArray, List.set_cons_zero, List.set_cons_succ])
              go_wp2_with fail
              refine Calls.mono hfn ?_
              rintro e Z ⟨rfl, hb⟩
              clear hfn
              go_wp2_with (first
                | (go_at_call 18; refine Calls.mono (wakes24_any _) ?_; rintro e W3 ⟨rfl, hb3⟩)
                | fail)
              go_ret
              have hB5 := HB4.out.trans (hb.mono HB4.out.size)
              exact Ret.mk rfl (bNext hB5 hb3)
set_option maxHeartbeats 16000000 in
set_option maxRecDepth 100000 in
theorem logOrder_big {next : Int} {A : Option Addr} {n c : Nat} (w : World) (h : 50 < n) : Calls Try.prog 8 #[lgv next A n c] w (Ret w (.bool true)) := by
  unfold lgv
  go_enter Try.func8, Try.ntmps8
  go_upto_region 1 with (fail)
  obtain ⟨W, hW⟩ : ∃ W, w.alloc (.cells #[.int .i64 next, .slice A n c] 46) = W := ⟨_, rfl⟩
  try rw [hW]
  have a4 : W.heap[w.heap.size]? = some (.cells #[.int .i64 next, .slice A n c] 46) := by rw [← hW]; exact heap_alloc_new _ _
  have hB : Below w.heap.size w W := by rw [← hW]; exact (Below.refl _ _).alloc (Nat.le_refl _) _
  clear hW
  have c1 : W.cell? ⟨w.heap.size, 1, none⟩ = some (.slice A n c) := blk_cell a4 rfl
  have HB := Lib.hid hB
  clear a4 hB
  go_wp2_with (first
    | (go_at_call 18; refine Calls.mono (wakes24_any _) ?_; rintro e W3 ⟨rfl, hb3⟩)
    | fail)
  go_ret
  exact Ret.mk rfl (HB.out.trans (hb3.mono HB.out.size))
set_option maxRecDepth 100000 in
theorem logOrder_walk {H : Type} {enc : TypeId × Value → H} {W : World} {base : Nat} {v0 : Value} {d0 : DataW H} {p0 : List MemPlace}
    (k0 : Value.okWide Try.prog W .any base 46 v0) (h0 : DataW.Trod enc Try.prog W 0 (fun _ => true) true 46 v0 d0 p0)
    : Calls Try.prog 8 #[v0] W fun e W' => e = .returned (.bool true) ∧ Below W.heap.size W W' := by
  obtain ⟨next, A, n, c, l, rfl, hl, hcm, -, -⟩ := open_lg k0 h0
  by_cases h : 50 < n
  · exact logOrder_big W h
  · exact logOrder_core W hl hcm (by omega)
end Go.Proofs.Ytjfkaebikmnnaaa
