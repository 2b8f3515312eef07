/- tree.levels: an iterator over the levels. -/
import Derived.Test.YtcnbonmpocddmaaTrNod
import Derived.Test.YtcnbonmpocddmaaNestR
import Derived.Test.YtcnbonmpocddmaaShaSmall
namespace Go.Proofs.Ytcnbonmpocddmaa
set_option linter.unusedSimpArgs false
set_option linter.unusedVariables false
open Go.RowKit Go.Shelf Go.Sort
attribute [local go_sem] Oper.semAt_some
attribute [-go_sem] Builtin.append_ Instr.buildSlice

/-- a node's digest -/
def nK (b : List UInt8) : List UInt8 := sha (4 :: b)
abbrev LvV := Value × List (List UInt8) × List SlB
def lvRd (lo : Nat) (x : LvV) (W : World) : Prop := NdS W lo x.1 x.2.1 x.2.2 ∧ x.2.1.length ≤ 1000
theorem nK_len (b : List UInt8) : (nK b).length = 32 := sha_len _
theorem levels_it (A : Option Addr) (n c : Nat) (w : World) :
    Calls Try.prog 23 #[.slice A n c] w fun e w' =>
      e = .returned (.func (.func 27) #[] #[.pointer (some ⟨w.heap.size, 0, none⟩)]) ∧ w.alloc (.cells #[.slice A n c] 22) = w' := by
  go_enter Try.func23, Try.ntmps23
  go_wp2
  go_ret
  exact ⟨rfl, rfl⟩
theorem NdS.entry {W : World} {lo : Nat} {v : Value} {ns : List (List UInt8)} {L : List SlB} (h : NdS W lo v ns L) {k : Nat} {x : SlB} (hx : L[k]? = some x) : ∃ b c, v = .slice (some ⟨b, 0, none⟩) ns.length c ∧ lo ≤ b ∧ b < W.heap.size ∧ W.cell? ⟨b, k, none⟩ = some (slv x) ∧ v.ownBlock = some b := by
  obtain ⟨hk, -⟩ := List.getElem?_eq_some_iff.1 hx
  have hl : L.length = ns.length := by rw [← h.txt, ndT, List.length_map]
  rcases h.own.2 with ⟨_, e⟩ | ⟨g, cap, cur, e, h1, h2, h3, h4, h5, h6⟩
  · omega
  · refine ⟨g, cap, e, h1, (Array.getElem?_eq_some_iff.1 h2).1, ?_, by rw [e]; rfl⟩
    rw [cell_of_row W g k cur _ (0, 0) h2]
    have : (cur.toList.take (ns.length * 1))[k]? = some (slv x) := by rw [h6, List.getElem?_map, hx]; rfl
    rw [List.getElem?_take] at this
    split at this
    · simpa using this
    · cases this
theorem NdS.but {W W' : World} {lo n : Nat} {X : Nat → Prop} {v : Value} {ns : List (List UInt8)} {L : List SlB} (h : NdS W lo v ns L) (hb : But n X W W') (hn : W.heap.size ≤ n) (hx : ∀ k, X k → k < lo) : NdS W' lo v ns L := by
  refine ⟨?_, h.txt, fun x hx2 => (h.each x hx2).kept (fun b o h1 _ ho _ => (hb.block b (by have := (Array.getElem?_eq_some_iff.1 ho).1; omega) (fun e => by have := hx b e; omega)).trans ho) (fun _ _ h => h)⟩
  refine ⟨h.own.1, ?_⟩
  rcases h.own.2 with h1 | ⟨g, cap, cur, e, h2, h3, h4⟩
  · exact .inl h1
  · exact .inr ⟨g, cap, cur, e, h2, (hb.block g (by have := (Array.getElem?_eq_some_iff.1 h3).1; omega) (fun e => by have := hx g e; omega)).trans h3, h4⟩
/-- one more digest -/
theorem dgs_snoc (ns : List (List UInt8)) {k : Nat} {x : List UInt8} (hx : ns[k]? = some x) : dgs ((ns.take (k + 1)).map nK) = dgs ((ns.take k).map nK) ++ bvs (nK x) := by
  obtain ⟨hk, rfl⟩ := List.getElem?_eq_some_iff.1 hx
  rw [List.take_succ_eq_append_getElem hk, List.map_append]
  simp [dgs]

/-- append and store: the row is the call's own, its slice in a box -/
theorem seq_push {w4 wr U2 U3 : World} {BX k : Nat} {A9 A2 : Option Addr} {c9 c3 : Nat} {xs ys : List Value} (hbx : Boxed wr BX 22 (.slice A9 k c9)) (hown : wr.ownsRow w4.heap.size 40 32 (.slice A9 k c9) k xs)
    (hB : But w4.heap.size (· = BX) w4 wr) (hsx : w4.heap.size ≤ wr.heap.size) (hlt : BX < w4.heap.size) (hb : Below wr.heap.size wr U2) (h3 : U3.ownsRow w4.heap.size 40 32 (.slice A2 (k + 1) c3) (k + 1) ys) (hg : U2.grownBy U3 (Value.slice A9 k c9).ownBlock) :
    Boxed U3 BX 22 (.slice A9 k c9) ∧ U3.frozen? ⟨BX, 0, none⟩ = false ∧ (Boxed (U3.setCell ⟨BX, 0, none⟩ (.slice A2 (k + 1) c3)) BX 22 (.slice A2 (k + 1) c3) ∧
      (U3.setCell ⟨BX, 0, none⟩ (.slice A2 (k + 1) c3)).ownsRow w4.heap.size 40 32 (.slice A2 (k + 1) c3) (k + 1) ys ∧ But w4.heap.size (· = BX) w4 (U3.setCell ⟨BX, 0, none⟩ (.slice A2 (k + 1) c3)) ∧ w4.heap.size ≤ (U3.setCell ⟨BX, 0, none⟩ (.slice A2 (k + 1) c3)).heap.size) := by
  have ge := own_ge hown
  have hbx2 : Boxed U2 BX 22 (.slice A9 k c9) := bBlk hb (by omega) hbx
  have hbx3 : Boxed U3 BX 22 (.slice A9 k c9) := hbx2.kept hg (fun e => by have := ge BX e.symm; omega)
  refine ⟨hbx3, hbx3.frozen, hbx3.set _, ?_, ?_, ?_⟩
  · refine h3.kept (grownBy_setCell' U3 BX _) (.inr fun e => ?_)
    have := own_ge h3 BX e
    omega
  · exact ((hB.trans (but_of (hb.mono hsx))).grown hg (Nat.le_trans hsx hb.size) (fun j e => .inl (ge j e))).set (X := (· = BX)) (p := ⟨BX, 0, none⟩) rfl _
  · have := hg.size
    have := hb.size
    simp; omega
theorem parts3_small : ∀ (q : Nat) (l : List (List UInt8)), ∀ p ∈ parts3 q l, p.length ≤ 3 ∧ ∀ x ∈ p, x ∈ l
  | 0, l, p, h => by cases h
  | q + 1, l, p, h => by
    rw [parts3] at h
    split at h
    · have : p = l := by simpa using h
      subst this
      exact ⟨by assumption, fun x hx => hx⟩
    · rcases List.mem_cons.1 h with rfl | h
      · exact ⟨by rw [List.length_take]; omega, fun x hx => List.mem_of_mem_take hx⟩
      · obtain ⟨h1, h2⟩ := parts3_small q _ p h
        exact ⟨h1, fun x hx => List.mem_of_mem_drop (h2 x hx)⟩
theorem nodesT_small {lv : Nat} {l : List (List UInt8)} (h : ∀ x ∈ l, x.length = 32) : ∀ y ∈ nodesT lv l, 2 ≤ y.length ∧ y.length ≤ 98 := by
  intro y hy
  unfold nodesT at hy
  obtain ⟨p, hp, rfl⟩ := List.mem_map.1 hy
  obtain ⟨h1, h2⟩ := parts3_small _ _ p hp
  rw [enc_len (fun x hx => h x (h2 x hx))]
  omega
set_option maxRecDepth 100000 in
set_option maxHeartbeats 16000000 in
theorem levels_seq {BX n0 c0 : Nat} {A0 : Option Addr} {l : List (List UInt8)} {w : World} (hbx : BX < w.heap.size) (hl : DgAt w w.heap.size A0 n0 c0 l) (hn : n0 ≤ 1000) (hBX : Boxed w BX 22 (.slice A0 n0 c0)) :
    SeqR Fence.wide 11 Try.prog 27 #[.pointer (some ⟨BX, 0, none⟩)] (fun x : LvV => #[x.1]) BX lvRd (fun xs => xs.map (·.2.1) = levelsT nK 7 0 l) 7 w := by
  intro l0 J W hl0 hbW hsz hY h0
  subst hl0
  have HY := Lib.hid hY
  have H0 := Lib.hid (show ∃ pre V0, J pre V0 ∧ W.heap.size ≤ V0.heap.size ∧ pre.length = 0 ∧ But V0.heap.size (· = BX) V0 W ∧ (pre.map (·.2.1) ++ levelsT nK 7 0 l = levelsT nK 7 0 l) ∧ ∃ A n c, Boxed W BX 22 (.slice A n c) ∧ DgAt W W.heap.size A n c l from
    ⟨[], W, h0, Nat.le_refl _, rfl, But.refl _ _ _, rfl, A0, n0, c0, bBlk hbW hbx hBX, hl.nxt hbW⟩)
  have hbxW : BX < W.heap.size := by have := hbW.size; omega
  have hlv : l.length ≤ 1000 ∧ lvN l.length ≤ 7 := ⟨by have := hl.len; omega, by unfold lvN; (repeat' split) <;> omega⟩
  have HLV := Lib.hid hlv
  clear hY h0 hl hBX hlv
  refine callsIn_of_wp Try.func27 rfl trivial ?_ rfl
  simp only [Try.ntmps27, List.size_toArray, List.length_cons, List.length_nil, Nat.reduceAdd, Nat.reduceSub, Array.replicate_succ, Array.replicate_zero, List.push_toArray, List.append_toArray, List.nil_append, List.cons_append]
  have HSZ := Lib.hid hsz
  clear hsz
  gi_wp2_with fail
  gi_loopw [3] (fun s3 wr => ∃ lv : Nat, s3 = .int .i64 lv ∧ lv ≤ 6 ∧ W.heap.size ≤ wr.heap.size ∧ ∃ lc : List (List UInt8), Hid (lc.length ≤ 1000 ∧ lvN lc.length + lv ≤ 7 ∧ ∃ pre V0, J pre V0 ∧ W.heap.size ≤ V0.heap.size ∧ pre.length = lv ∧ But V0.heap.size (· = BX) V0 wr ∧ (pre.map (·.2.1) ++ levelsT nK (7 - lv) lv lc = levelsT nK 7 0 l) ∧ ∃ A n c, Boxed wr BX 22 (.slice A n c) ∧ DgAt wr wr.heap.size A n c lc)) (fun s3 _ => 7 - (intOf s3).toNat)
  case atStart => exact ⟨0, rfl, by omega, Nat.le_refl _, l, Lib.hid ⟨HLV.out.1, HLV.out.2, H0.out⟩⟩
  case round =>
    obtain ⟨lv, rfl, hlv, hWr, lc, HI⟩ := hrel
    obtain ⟨hl1, hl2, pre, V0, hJ, hWV, hpl, hB0, hap, A, n, c, hbox, hd⟩ := HI.out
    have hlen := hd.len
    have HSM := Lib.hid (nodesT_small (lv := lv) hd.wide)
    have hnod := nodes_any (lv := lv) wr hd (by omega) (by omega)
    have hbc := hbox.cell
    have HI := Lib.hid (And.intro hl1 (And.intro hl2 (And.intro hJ (And.intro hWV (And.intro hpl (And.intro hB0 (And.intro hap (And.intro hbox hlen))))))))
    clear hl1 hl2 hJ hWV hpl hB0 hap hbox hd hlen
    gi_wp2_with fail
    refine ⟨trivial, ?_⟩
    refine (callsIn_wide.2 hnod).mono ?_
    rintro e w1 ⟨v, L, rfl, hnd, hb1⟩
    obtain ⟨hl1, hl2, hJ, hWV, hpl, hB0, hap, hbox, hlen⟩ := HI.out
    have hnl : (nodesT lv lc).length ≤ 1000 := by rw [nodesT_len]; split <;> omega
    have hB1 : But V0.heap.size (· = BX) V0 w1 := hB0.trans (but_of (hb1.mono hB0.size))
    have hnd0 := hnd.base hB0.size
    obtain ⟨fn, tmps, assign, body, hy, hR⟩ := HY.out pre (v, nodesT lv lc, L) V0 w1 hJ (by omega) hWV hB1 ⟨hnd0, hnl⟩
    have hbx1 : Boxed w1 BX 22 (.slice A n c) := bBlk hb1 (by omega) hbox
    have HI2 := Lib.hid (And.intro hl1 (And.intro hl2 (And.intro hJ (And.intro hWV (And.intro hpl (And.intro hB1 (And.intro hap (And.intro hbx1 (And.intro hnd hlen)))))))))
    have hb1s := hb1.size
    clear hl1 hl2 hJ hWV hpl hB0 hap hbox hlen hB1 hnd0 hbx1 hnd hb1 HI hnod hbc
    obtain ⟨Av, cv, rfl, -⟩ := own_form HI2.out.2.2.2.2.2.2.2.2.1.own
    obtain ⟨nn, hnn⟩ : ∃ q, nodesT lv lc = q := ⟨_, rfl⟩
    rw [hnn] at hy hR hnl HI2 HSM
    rw [hnn]
    gi_wp2_with fail
    refine hR.mono ?_
    rintro e w2 ⟨rfl, hJ2, hrd2, hbx2, hsz2⟩
    obtain ⟨hl1, hl2, hJ, hWV, hpl, hB1, hap, hbx1, hnd, hlen⟩ := HI2.out
    have h7 : 7 - lv = (6 - lv) + 1 := by omega
    rw [h7, levelsT, hnn] at hap
    have hbx9 : Boxed w2 BX 22 (.slice A n c) := hbx2.trans hbx1
    have hbc2 := hbx9.cell
    have hbf2 := hbx9.frozen
    have hb1s0 := hB1.size
    have hw2s : V0.heap.size ≤ w2.heap.size := by omega
    by_cases h1 : nn.length = 1
    · rw [if_pos h1] at hap
      have HF := Lib.hid (And.intro hJ2 hap)
      have h1i : (nn.length : Int) = 1 := by omega
      clear hl1 hl2 hJ hpl hB1 hap hbx1 hnd hlen hJ2 hrd2 hbx2 hbx9 hR hy HI2
      clear h1
      gi_wp2_with fail
      refine bodyPost_ret (results_none rfl _ _ _) rfl ?_
      exact ⟨⟨_, rfl⟩, pre ++ [(.slice Av nn.length cv, nn, L)], w2, by rw [List.map_append]; exact HF.out.2, HF.out.1, by omega, But.refl _ _ _⟩
    · rw [if_neg h1] at hap
      have h1i : ¬ (nn.length : Int) = 1 := by omega
      have hnl3 : nn.length = if lc.length = 0 then 1 else (lc.length + 2) / 3 := by rw [← hnn, nodesT_len]
      have hlc3 : 3 < lc.length := by
        rw [hnl3] at h1
        split at h1 <;> omega
      have hnl4 : nn.length = (lc.length + 2) / 3 := by rw [hnl3, if_neg (by omega)]
      have hlvs := lvN_step hlc3 hl1
      have hlv5 : lv ≤ 5 := by
        have : 1 ≤ lvN ((lc.length + 2) / 3) := by unfold lvN; (repeat' split) <;> omega
        omega
      have HF := Lib.hid (And.intro hJ2 (And.intro hap (And.intro hpl (And.intro (show lvN nn.length + (lv + 1) ≤ 7 by rw [hnl4]; omega) hrd2))))
      clear hl1 hl2 hJ hpl hB1 hap hbx1 hnd hlen hJ2 hrd2 hbx2 hR hy HI2 hnl3 hnl4 hlvs hlc3 h1 h7
      gi_wp2_with fail
      obtain ⟨w4, hw4⟩ : ∃ q, w2.setCell ⟨BX, 0, none⟩ (.slice none 0 0) = q := ⟨_, rfl⟩
      have hbx4 : Boxed w4 BX 22 (.slice none 0 0) := by rw [← hw4]; exact hbx9.set _
      have hB4 : But w2.heap.size (· = BX) w2 w4 := by rw [← hw4]; exact (But.refl _ _ _).set (X := (· = BX)) (p := ⟨BX, 0, none⟩) rfl _
      have hs4 : w4.heap.size ≤ w2.heap.size ∧ w2.heap.size ≤ w4.heap.size := by rw [← hw4]; simp
      have hnd4 : NdS w4 V0.heap.size (.slice Av nn.length cv) nn L := NdS.but HF.out.2.2.2.2.1 hB4 (Nat.le_refl _) (fun k e => by omega)
      rw [hw4]
      have HW4 := Lib.hid (And.intro hB4 hnd4)
      have HBX4 := Lib.hid hbx4
      clear hw4 hbx4 hB4 hnd4 hbx9 hbc2 hbf2
      gi_loopw [23] (fun s23 wx => ∃ k : Nat, s23 = .int .i64 k ∧ k ≤ nn.length ∧ w4.heap.size ≤ wx.heap.size ∧ ∃ (A9 : Option Addr) (c9 : Nat), Hid (Boxed wx BX 22 (.slice A9 k c9) ∧ wx.ownsRow w4.heap.size 40 32 (.slice A9 k c9) k (dgs ((nn.take k).map nK)) ∧ But w4.heap.size (· = BX) w4 wx)) (fun s23 _ => nn.length - (intOf s23).toNat)
      case atStart => exact ⟨0, rfl, by omega, Nat.le_refl _, none, 0, Lib.hid ⟨HBX4.out, World.ownsRow_nil _ _ _ _, But.refl _ _ _⟩⟩
      case round =>
        obtain ⟨k, rfl, hk, hsx, A9, c9, HO⟩ := hrel
        by_cases hlt : k < nn.length
        · have hlt' : (k : Int) < (nn.length : Int) := by omega
          obtain ⟨hB4, hnd4⟩ := HW4.out
          obtain ⟨hbx5, hown5, hB5⟩ := HO.out
          have hll : L.length = nn.length := by rw [← hnd4.txt, ndT, List.length_map]
          obtain ⟨x, hx⟩ : ∃ x, L[k]? = some x := ⟨_, List.getElem?_eq_getElem (by omega)⟩
          have hxn : nn[k]? = some x.2.2 := by rw [← hnd4.txt, ndT, List.getElem?_map, hx]; rfl
          have hnd5 : NdS wr V0.heap.size (.slice Av nn.length cv) nn L := hnd4.but hB5 (Nat.le_refl _) (fun k e => by omega)
          obtain ⟨b, c2, ev, hb1, hb2, hbc, -⟩ := hnd5.entry hx
          cases ev
          have hnx := hnd5.each x (List.mem_of_getElem? hx)
          have hxl : x.2.2.length ≤ 1000000000 := by have := (HSM.out _ (List.mem_of_getElem? hxn)).2; omega
          have hof := fun (W : World) (h : Below wr.heap.size wr W) => of_any (kind := 4) (c := x.2.1) hxl W h.size (hnx.sl.below h)
          rw [show Go.Proofs.Ytcnbonmpocddmaa.u8 4 = (4 : UInt8) from by decide] at hof
          have hsn := dgs_snoc nn hxn
          change ∀ W, _ → Calls _ _ _ _ (Ret W (.agg (bvs (nK x.2.2)).toArray)) at hof
          obtain ⟨cs, hcs⟩ : ∃ q, bvs (nK x.2.2) = q := ⟨_, rfl⟩
          have hcl : cs.length = 32 := by rw [← hcs, bvs_len, nK_len]
          have hone : ∀ u ∈ cs, u.oneCell' = true := by rw [← hcs]; exact oneCell_bvs _
          rw [hcs] at hof hsn
          have HX := Lib.hid (And.intro hbx5 (And.intro hown5 (And.intro hB5 hsn)))
          unfold slv at hbc
          clear hB4 hnd4 hbx5 hown5 hB5 hll hxn hnd5 hcs hsn hx hnx hxl
          have hb0 := hb2
          gi_wp2_with fail
          refine wpIn_wide.2 ?_
          let S : World → Prop := fun _ => True
          have hS0 : S wr.drew := trivial
          have hcell : ∀ W, Below wr.heap.size wr W → W.cell? ⟨BX, 0, none⟩ = some (.slice A9 k c9) := fun W h => (h.cell (p := ⟨BX, 0, none⟩) (by show BX < _; omega)).trans HX.out.1.cell
          have hbx4 : BX < w4.heap.size := by omega
          have h0 : Below wr.heap.size wr wr.drew := (Below.refl _ _).drew
          have hkn : k ≤ 1000 := by omega
          clear HI HY H0 HLV hbW
          refine wp_region_held (S := S) (by kernel_rfl) ?_
          change wpAnyH _ _ _ _ S _ _ _ wr.drew
          
          refine wpAnyH_take (i := 1) (oi := ?oi_1) (v := ?v_1) ?ho_1 ?h1_1 ?h2_1 ?h3_1 ?hq_1 (Or.inl ⟨?hw_1, ?hy_1⟩) ?hs_1 ?rest_1; (case h2_1 => kernel_rfl); (case h3_1 => kernel_rfl); (case ho_1 => (simp only [List.getElem?_toArray, List.getElem?_cons_zero, List.getElem?_cons_succ]; rfl)); (case h1_1 => kernel_rfl); (case hq_1 => exact fun _ _ _ h => h); (case hw_1 => rfl); (case hy_1 => (intro w' hSw; (try simp only [S] at hSw); go_simp; (try with_reducible rfl))); (case hs_1 => assumption); (try simp only [Act.put, List.setIfInBounds_toArray, List.set_cons_zero, List.set_cons_succ])
          refine wpAnyH_ready (rs := [0, 2]) (by kernel_rfl) (by simp) (AllReadyH.cons (o := ?oo0_2) ?hoo0_2 (fun K hK => ?step0) (AllReadyH.cons (o := ?oo2_2) ?hoo2_2 (fun K hK => ?step2) AllReadyH.nil)); (case hoo0_2 => (simp only [List.getElem?_toArray, List.getElem?_cons_zero, List.getElem?_cons_succ]; rfl)); (case hoo2_2 => (simp only [List.getElem?_toArray, List.getElem?_cons_zero, List.getElem?_cons_succ]; rfl))
          case step0 =>
            have hcL := hcell _ h0
            go_simp
            refine hK.out _ _ trivial (fun _ => ?_)
            clear hK K hcL
            (try simp only [Act.put, List.setIfInBounds_toArray, List.set_cons_zero, List.set_cons_succ])
            refine wpAnyH_ready (rs := [2]) (by kernel_rfl) (by simp) (AllReadyH.cons (o := ?oo2_3) ?hoo2_3 (fun K hK => ?steponly3) AllReadyH.nil); (case hoo2_3 => (simp only [List.getElem?_toArray, List.getElem?_cons_zero, List.getElem?_cons_succ]; rfl))
            go_simp
            refine Calls.mono (hof _ h0) ?_
            rintro e U1 ⟨rfl, hbU1⟩
            have hU1 : Below wr.heap.size wr U1 := h0.trans (hbU1.mono (Below.size h0))
            refine hK.out _ _ trivial (fun _ => ?_)
            clear hK K
            (try simp only [Act.put, List.setIfInBounds_toArray, List.set_cons_zero, List.set_cons_succ])
            refine wpAnyH_ready (rs := [3]) (by kernel_rfl) (by simp) (AllReadyH.cons (o := ?oo3_4) ?hoo3_4 (fun K hK => ?steponly4) AllReadyH.nil); (case hoo3_4 => (simp only [List.getElem?_toArray, List.getElem?_cons_zero, List.getElem?_cons_succ]; rfl))
            have hbs := run_slice1 (P := Try.prog) (t := 22) dgZ Try.underlying22 (by rw [List.size_toArray, bvs_len]; rfl) (by omega) (by omega) cs hcl U1
            refine step_slice rfl 22 1 #[(0, .tmp 29)] rfl (by simp only [List.map_toArray, List.map_cons, List.map_nil]; exact hbs) ?_
            clear hbs
            obtain ⟨U2, hU2⟩ : ∃ q, U1.alloc (.cells cs.toArray 40) = q := ⟨_, rfl⟩
            have hblk : U2.heap[U1.heap.size]? = some (.cells cs.toArray 40) := by rw [← hU2]; exact heap_alloc_new _ _
            have hU2b : Below wr.heap.size wr U2 := by rw [← hU2]; exact hU1.alloc hU1.size _
            rw [hU2]
            clear hU2
            refine hK.out _ _ trivial (fun _ => ?_)
            clear hK K
            (try simp only [Act.put, List.setIfInBounds_toArray, List.set_cons_zero, List.set_cons_succ])
            refine wpAnyH_ready (rs := [4]) (by kernel_rfl) (by simp) (AllReadyH.cons (o := ?oo4_5) ?hoo4_5 (fun K hK => ?steponly5) AllReadyH.nil); (case hoo4_5 => (simp only [List.getElem?_toArray, List.getElem?_cons_zero, List.getElem?_cons_succ]; rfl))
            refine step_app _ rfl (.tmp 27) (.tmp 30) 22 rfl Try.underlying22 elemD rfl (own_below HX.out.2.1 hU2b) rfl (Sl.new (n := 1) hblk (by simpa using hcl)) (by simpa using hone) (by simp only [maxLen]; omega) (by omega) (by have := hU2b.size; omega) ?_
            intro A2 c3 U3 hown3 hg3 hb3 hat3
            obtain ⟨hbx6, hfr6, FIN⟩ := seq_push HX.out.1 HX.out.2.1 HX.out.2.2.1 hsx hbx4 hU2b hown3 hg3
            have hc6 := hbx6.cell
            have HFI := Lib.hid (And.intro FIN HX.out.2.2.2)
            clear FIN hown3 hg3 hb3 hat3 hbx6 hblk hU2b hU1 hbU1
            refine hK.out _ _ trivial (fun _ => ?_)
            clear hK K
            (try simp only [Act.put, List.setIfInBounds_toArray, List.set_cons_zero, List.set_cons_succ])
            refine wpAnyH_ready (rs := [5]) (by kernel_rfl) (by simp) (AllReadyH.cons (o := ?oo5_6) ?hoo5_6 (fun K hK => ?steponly6) AllReadyH.nil); (case hoo5_6 => (simp only [List.getElem?_toArray, List.getElem?_cons_zero, List.getElem?_cons_succ]; rfl))
            go_simp
            refine hK.out _ _ trivial (fun _ => ?_)
            clear hK K
            (try simp only [Act.put, List.setIfInBounds_toArray, List.set_cons_zero, List.set_cons_succ])
            refine wpAnyH_done (by kernel_rfl) ?_ _
            gi_wp2_with fail
            go_roundw
            case rel =>
              obtain ⟨⟨f1, f2, f3, f4⟩, hsn⟩ := HFI.out
              refine ⟨k + 1, by go_num, by omega, by simpa using f4, A2, c3, Lib.hid ⟨f1, ?_, f3⟩⟩
              try rw [← List.map_take]
              rw [hsn]; exact f2
            case measure => simp [intOf]; omega
          case step2 =>
            go_simp
            refine Calls.mono (hof _ h0) ?_
            rintro e U1 ⟨rfl, hbU1⟩
            have hU1 : Below wr.heap.size wr U1 := h0.trans (hbU1.mono (Below.size h0))
            refine hK.out _ _ trivial (fun _ => ?_)
            clear hK K
            (try simp only [Act.put, List.setIfInBounds_toArray, List.set_cons_zero, List.set_cons_succ])
            refine wpAnyH_ready (rs := [0, 3]) (by kernel_rfl) (by simp) (AllReadyH.cons (o := ?oo0_7) ?hoo0_7 (fun K hK => ?stepX0) (AllReadyH.cons (o := ?oo3_7) ?hoo3_7 (fun K hK => ?stepX3) AllReadyH.nil)); (case hoo0_7 => (simp only [List.getElem?_toArray, List.getElem?_cons_zero, List.getElem?_cons_succ]; rfl)); (case hoo3_7 => (simp only [List.getElem?_toArray, List.getElem?_cons_zero, List.getElem?_cons_succ]; rfl))
            case stepX0 =>
              have hcL := hcell _ hU1
              go_simp
              refine hK.out _ _ trivial (fun _ => ?_)
              clear hK K hcL
              (try simp only [Act.put, List.setIfInBounds_toArray, List.set_cons_zero, List.set_cons_succ])
              refine wpAnyH_ready (rs := [3]) (by kernel_rfl) (by simp) (AllReadyH.cons (o := ?oo3_8) ?hoo3_8 (fun K hK => ?steponly8) AllReadyH.nil); (case hoo3_8 => (simp only [List.getElem?_toArray, List.getElem?_cons_zero, List.getElem?_cons_succ]; rfl))
              have hbs := run_slice1 (P := Try.prog) (t := 22) dgZ Try.underlying22 (by rw [List.size_toArray, bvs_len]; rfl) (by omega) (by omega) cs hcl U1
              refine step_slice rfl 22 1 #[(0, .tmp 29)] rfl (by simp only [List.map_toArray, List.map_cons, List.map_nil]; exact hbs) ?_
              clear hbs
              obtain ⟨U2, hU2⟩ : ∃ q, U1.alloc (.cells cs.toArray 40) = q := ⟨_, rfl⟩
              have hblk : U2.heap[U1.heap.size]? = some (.cells cs.toArray 40) := by rw [← hU2]; exact heap_alloc_new _ _
              have hU2b : Below wr.heap.size wr U2 := by rw [← hU2]; exact hU1.alloc hU1.size _
              rw [hU2]
              clear hU2
              refine hK.out _ _ trivial (fun _ => ?_)
              clear hK K
              (try simp only [Act.put, List.setIfInBounds_toArray, List.set_cons_zero, List.set_cons_succ])
              refine wpAnyH_ready (rs := [4]) (by kernel_rfl) (by simp) (AllReadyH.cons (o := ?oo4_9) ?hoo4_9 (fun K hK => ?steponly9) AllReadyH.nil); (case hoo4_9 => (simp only [List.getElem?_toArray, List.getElem?_cons_zero, List.getElem?_cons_succ]; rfl))
              refine step_app _ rfl (.tmp 27) (.tmp 30) 22 rfl Try.underlying22 elemD rfl (own_below HX.out.2.1 hU2b) rfl (Sl.new (n := 1) hblk (by simpa using hcl)) (by simpa using hone) (by simp only [maxLen]; omega) (by omega) (by have := hU2b.size; omega) ?_
              intro A2 c3 U3 hown3 hg3 hb3 hat3
              obtain ⟨hbx6, hfr6, FIN⟩ := seq_push HX.out.1 HX.out.2.1 HX.out.2.2.1 hsx hbx4 hU2b hown3 hg3
              have hc6 := hbx6.cell
              have HFI := Lib.hid (And.intro FIN HX.out.2.2.2)
              clear FIN hown3 hg3 hb3 hat3 hbx6 hblk hU2b hU1 hbU1
              refine hK.out _ _ trivial (fun _ => ?_)
              clear hK K
              (try simp only [Act.put, List.setIfInBounds_toArray, List.set_cons_zero, List.set_cons_succ])
              refine wpAnyH_ready (rs := [5]) (by kernel_rfl) (by simp) (AllReadyH.cons (o := ?oo5_10) ?hoo5_10 (fun K hK => ?steponly10) AllReadyH.nil); (case hoo5_10 => (simp only [List.getElem?_toArray, List.getElem?_cons_zero, List.getElem?_cons_succ]; rfl))
              go_simp
              refine hK.out _ _ trivial (fun _ => ?_)
              clear hK K
              (try simp only [Act.put, List.setIfInBounds_toArray, List.set_cons_zero, List.set_cons_succ])
              refine wpAnyH_done (by kernel_rfl) ?_ _
              gi_wp2_with fail
              go_roundw
              case rel =>
                obtain ⟨⟨f1, f2, f3, f4⟩, hsn⟩ := HFI.out
                refine ⟨k + 1, by go_num, by omega, by simpa using f4, A2, c3, Lib.hid ⟨f1, ?_, f3⟩⟩
                try rw [← List.map_take]
                rw [hsn]; exact f2
              case measure => simp [intOf]; omega
            case stepX3 =>
              have hbs := run_slice1 (P := Try.prog) (t := 22) dgZ Try.underlying22 (by rw [List.size_toArray, bvs_len]; rfl) (by omega) (by omega) cs hcl U1
              refine step_slice rfl 22 1 #[(0, .tmp 29)] rfl (by simp only [List.map_toArray, List.map_cons, List.map_nil]; exact hbs) ?_
              clear hbs
              obtain ⟨U2, hU2⟩ : ∃ q, U1.alloc (.cells cs.toArray 40) = q := ⟨_, rfl⟩
              have hblk : U2.heap[U1.heap.size]? = some (.cells cs.toArray 40) := by rw [← hU2]; exact heap_alloc_new _ _
              have hU2b : Below wr.heap.size wr U2 := by rw [← hU2]; exact hU1.alloc hU1.size _
              rw [hU2]
              clear hU2
              refine hK.out _ _ trivial (fun _ => ?_)
              clear hK K
              (try simp only [Act.put, List.setIfInBounds_toArray, List.set_cons_zero, List.set_cons_succ])
              refine wpAnyH_ready (rs := [0]) (by kernel_rfl) (by simp) (AllReadyH.cons (o := ?oo0_11) ?hoo0_11 (fun K hK => ?steponly11) AllReadyH.nil); (case hoo0_11 => (simp only [List.getElem?_toArray, List.getElem?_cons_zero, List.getElem?_cons_succ]; rfl))
              have hcL := hcell _ hU2b
              go_simp
              refine hK.out _ _ trivial (fun _ => ?_)
              clear hK K hcL
              (try simp only [Act.put, List.setIfInBounds_toArray, List.set_cons_zero, List.set_cons_succ])
              refine wpAnyH_ready (rs := [4]) (by kernel_rfl) (by simp) (AllReadyH.cons (o := ?oo4_12) ?hoo4_12 (fun K hK => ?steponly12) AllReadyH.nil); (case hoo4_12 => (simp only [List.getElem?_toArray, List.getElem?_cons_zero, List.getElem?_cons_succ]; rfl))
              refine step_app _ rfl (.tmp 27) (.tmp 30) 22 rfl Try.underlying22 elemD rfl (own_below HX.out.2.1 hU2b) rfl (Sl.new (n := 1) hblk (by simpa using hcl)) (by simpa using hone) (by simp only [maxLen]; omega) (by omega) (by have := hU2b.size; omega) ?_
              intro A2 c3 U3 hown3 hg3 hb3 hat3
              obtain ⟨hbx6, hfr6, FIN⟩ := seq_push HX.out.1 HX.out.2.1 HX.out.2.2.1 hsx hbx4 hU2b hown3 hg3
              have hc6 := hbx6.cell
              have HFI := Lib.hid (And.intro FIN HX.out.2.2.2)
              clear FIN hown3 hg3 hb3 hat3 hbx6 hblk hU2b hU1 hbU1
              refine hK.out _ _ trivial (fun _ => ?_)
              clear hK K
              (try simp only [Act.put, List.setIfInBounds_toArray, List.set_cons_zero, List.set_cons_succ])
              refine wpAnyH_ready (rs := [5]) (by kernel_rfl) (by simp) (AllReadyH.cons (o := ?oo5_13) ?hoo5_13 (fun K hK => ?steponly13) AllReadyH.nil); (case hoo5_13 => (simp only [List.getElem?_toArray, List.getElem?_cons_zero, List.getElem?_cons_succ]; rfl))
              go_simp
              refine hK.out _ _ trivial (fun _ => ?_)
              clear hK K
              (try simp only [Act.put, List.setIfInBounds_toArray, List.set_cons_zero, List.set_cons_succ])
              refine wpAnyH_done (by kernel_rfl) ?_ _
              gi_wp2_with fail
              go_roundw
              case rel =>
                obtain ⟨⟨f1, f2, f3, f4⟩, hsn⟩ := HFI.out
                refine ⟨k + 1, by go_num, by omega, by simpa using f4, A2, c3, Lib.hid ⟨f1, ?_, f3⟩⟩
                try rw [← List.map_take]
                rw [hsn]; exact f2
              case measure => simp [intOf]; omega
        · obtain rfl : k = nn.length := by omega
          obtain ⟨hbx5, hown5, hB5⟩ := HO.out
          have hd5 : DgAt wr wr.heap.size A9 nn.length c9 (nn.map nK) := DgAt.of_own (by have := hown5; rwa [List.take_length] at this) (by rw [List.length_map]) (fun x hx => by obtain ⟨y, -, rfl⟩ := List.mem_map.1 hx; exact nK_len y)
          have hBB : But w2.heap.size (· = BX) w2 wr := HW4.out.1.trans (hB5.weak hs4.2 (fun k e => e))
          have HR := Lib.hid (And.intro hbx5 (And.intro hd5 hBB))
          have g1 : IntKind.i64.wrap ((lv : Int) + 1) = ((lv + 1 : Nat) : Int) := by rw [wrap_small _ (by omega) (by omega)]; omega
          clear hbx5 hown5 hB5 hd5 hBB HO HI HY H0 HLV hbW
          gi_wp2_with fail
          go_roundw
          case rel =>
            obtain ⟨f1, f2, f3, f4, -⟩ := HF.out
            obtain ⟨g1, g2, g3⟩ := HR.out
            refine ⟨lv + 1, by go_num, by omega, by omega, nn.map nK, Lib.hid ⟨by rw [List.length_map]; exact hnl, by rw [List.length_map]; exact f4, pre ++ [(_, nn, L)], w2, f1, by omega, by rw [List.length_append, f3]; rfl, g3, ?_, A9, nn.length, c9, g1, g2⟩⟩
            rw [List.map_append, ← f2, show 7 - (lv + 1) = 6 - lv from by omega]
            simp
          case measure => simp [intOf]; omega
end Go.Proofs.Ytcnbonmpocddmaa
