/- The walk over pages.section. -/
import Derived.Test.YtdnpcplboohdpaaPgRep2
import Derived.Lib.MinMax
namespace Go.Proofs.Ytdnpcplboohdpaa
set_option linter.unusedSimpArgs false
set_option linter.unusedVariables false
open Go.RowKit Go.Sort

def wyz : Array Value := #[.slice none 0 0, .int .i64 0, .int .i64 0]
theorem wyZ : ZeroIs Try.prog 35 wyz := by unfold ZeroIs; kernel_rfl
theorem wy_size : (Try.prog.info? 35).map (·.size) = some 3 := by kernel_rfl
theorem ext_none {fl : List (Option WY)} {j : Nat} : (fl ++ [none])[j]?.join = fl[j]?.join := by
  rcases Nat.lt_or_ge j fl.length with h | h
  · rw [List.getElem?_append_left h]
  · rw [List.getElem?_append_right h, List.getElem?_eq_none h]
    cases j - fl.length with
    | zero => rfl
    | succ m => simp
theorem fst_join {fl : List (Option WY)} {c : Option WY} {i : Nat} (h : i < fl.length) : (fl ++ [c])[i]?.join = fl[i]?.join := by rw [List.getElem?_append_left h]
def SecP (w : World) (W : WY) (e : Ending) (w' : World) : Prop := ∃ A m c, e = .returned (wyv A m c W.total 0) ∧ IvAt w' w'.heap.size A m c W.ends ∧ Below w.heap.size w w'
theorem ints1 (a : Int) (w : World) : (Instr.buildSlice 33 1 #[(0, .int .i64 a)]).run Try.prog w = .ok (.slice (some ⟨w.heap.size, 0, none⟩) 1 1) (w.alloc (.cells #[.int .i64 a] 3)) := by
  go_simp
theorem built_wy (A : Option Addr) (n c : Nat) (t : Int) : Try.prog.built 35 [(0, .slice A n c), (1, .int .i64 t)] = some #[.slice A n c, .int .i64 t, .int .i64 0] := by kernel_rfl
attribute [-go_sem] Builtin.append_
attribute [-go_sem] Instr.buildSlice
set_option maxHeartbeats 16000000 in
set_option maxRecDepth 100000 in
theorem section_any {A : Option Addr} {n c a t : Nat} {h : Int} {l : List LN} (w : World) (hl : LnAt w w.heap.size A n c l) (hone : ∀ x ∈ l, x.One) (h3 : 3 ≤ h) (h20 : h ≤ 20) (hn : n ≤ 300) (ha : a ≤ t) (ht : t ≤ n) :
    Calls Try.prog 21 #[.slice A n c, .int .i64 (a : Int), .int .i64 (t : Int), .int .i64 h] w (SecP w (secP l a t h)) := by
  obtain ⟨K, hK⟩ : ∃ K, t - a = K := ⟨_, rfl⟩
  have hK3 : K ≤ 300 := by omega
  have hmk := fun W => make_tab (K + 1) (by omega) (by omega) W
  have e1 : IntKind.i64.wrap ((t : Int) - (a : Int)) = (K : Int) := by rw [wrap_small _ (by omega) (by omega)]; omega
  have e2 : IntKind.i64.wrap ((K : Int) + 1) = ((K + 1 : Nat) : Int) := by rw [wrap_small _ (by omega) (by omega)]; omega
  have hsec : secP l a t h = ((fnd l a h K)[K]?.join).getD ⟨[], 0⟩ := by unfold secP; rw [hK]
  rw [hsec]
  obtain ⟨Wr, hWr0⟩ : ∃ q, ((fnd l a h K)[K]?.join).getD ⟨[], 0⟩ = q := ⟨_, rfl⟩
  rw [hWr0]
  have HWR := Lib.hid hWr0
  clear hWr0
  obtain ⟨N, hN⟩ : ∃ N, K + 1 = N := ⟨_, rfl⟩
  rw [hN] at e2
  simp only [hN] at hmk
  have HL := Lib.hid (And.intro hl hone)
  clear hl hone hsec
  go_enter Try.func21, Try.ntmps21
  obtain ⟨zw, hzw⟩ : ∃ q, wyz = q := ⟨_, rfl⟩
  have hwz := wyZ
  rw [hzw] at hwz
  have hz3 : zw.size = 3 := by rw [← hzw]; rfl
  go_upto_region 1 with (first | (refine wpList_new rfl hwz rfl ?_) | fail)
  obtain ⟨W, hW⟩ : ∃ q, w.alloc (.cells zw 35) = q := ⟨_, rfl⟩
  have y8 : W.heap[w.heap.size]? = some (.cells zw 35) := by rw [← hW]; exact heap_alloc_new _ _
  have hB : Below w.heap.size w W := by rw [← hW]; exact (Below.refl _ _).alloc (Nat.le_refl _) _
  have hzW : W.heap.size = w.heap.size + 1 := by rw [← hW]; simp
  rw [hW]
  clear hW
  have hmk1 := hmk W
  obtain ⟨cs0, hcs0⟩ : ∃ q, madeCells bz.toArray (N * 4) = q := ⟨_, rfl⟩
  have hsz0 : cs0.size = N * 4 := by rw [← hcs0]; exact made_size _
  have h03 : cs0[3]? = some (.bool false) := by rw [← hcs0, made_at (by omega)]; rfl
  rw [hcs0] at hmk1
  clear hmk
  obtain ⟨Y, hY⟩ : ∃ q, W.alloc (.cells cs0 58) = q := ⟨_, rfl⟩
  have yF : Y.heap[W.heap.size]? = some (.cells cs0 58) := by rw [← hY]; exact heap_alloc_new _ _
  have hbY : Below W.heap.size W Y := by rw [← hY]; exact (Below.refl _ _).alloc (Nat.le_refl _) _
  rw [hY] at hmk1
  clear hY
  have hN0 : 0 < N := by omega
  have hN0' : (0 : Int) < (N : Int) := by omega
  obtain ⟨F, hF⟩ : ∃ F, W.heap.size = F := ⟨_, rfl⟩
  rw [hF] at hmk1 yF
  have k3 : Y.cell? ⟨F, 3, none⟩ = some (.bool false) := blk_cell yF h03
  have f3 := blk_frozen yF 3
  have HY := Lib.hid (And.intro y8 (And.intro hB (And.intro hzW (And.intro hbY (And.intro hF (And.intro yF hcs0))))))
  clear y8 hB hzW hbY hF yF hcs0
  go_upto_region 2 with (fail)
  have hN4 : 3 < N * 4 := by omega
  go_upto_region 3 with (fail)
  obtain ⟨X, hX⟩ : ∃ q, Y.setCell ⟨F, 3, none⟩ (.bool true) = q := ⟨_, rfl⟩
  obtain ⟨y8, hB, hzW, hbY, hF, yF, hcs0⟩ := HY.out
  have hrep : FRep X F N (fnd l a h 0) (cs0.setIfInBounds 3 (.bool true)) := by
    refine tab_new (by omega) ?_ (by rw [hcs0])
    rw [← hX]
    exact blk_set yF 3 _
  have hBX : Below w.heap.size w X := by
    rw [← hX]
    exact (bNext hB hbY).setCell (p := ⟨F, 3, none⟩) (by show w.heap.size ≤ F; omega) _
  have x8 : X.heap[w.heap.size]? = some (.cells zw 35) := by
    rw [← hX]
    exact blk_far (W := Y) (bBlk hbY (Array.getElem?_eq_some_iff.1 y8).1 y8) _ (by show w.heap.size ≠ F; omega)
  rw [hX]
  have hFw : F = w.heap.size + 1 := by omega
  have HX := Lib.hid (And.intro hrep (And.intro hBX x8))
  have HFw := Lib.hid hFw
  clear hX y8 hB hzW hbY hF yF hcs0 HY hrep hBX x8 k3 f3 h03 hmk1 hsz0 hFw
  go_wp2_with fail
  go_loopw [10] (fun s10 wr => ∃ k : Nat, 1 ≤ k ∧ k ≤ N ∧ s10 = .int .i64 k ∧ Below w.heap.size w wr ∧ wr.heap[w.heap.size]? = some (.cells zw 35) ∧ ∃ cs, FRep wr F N (fnd l a h (k - 1)) cs) (fun i _ => N - (intOf i).toNat)
  case atStart => exact ⟨1, by omega, by omega, rfl, HX.out.2.1, HX.out.2.2, _, HX.out.1⟩
  case round =>
    clear HX
    obtain ⟨k, hk1, hkN, rfl, hbr, r8, cs, hrep⟩ := hrel
    have hKi : (K : Int) < (N : Int) := by omega
    by_cases hlt : k < N
    · have hi1 : (k : Int) ≤ (K : Int) := by omega
      obtain ⟨lo, hlo⟩ : ∃ lo, loOf h k = lo := ⟨_, rfl⟩
      have hlok : lo < k ∧ (lo : Int) = max 0 ((k : Int) - h) := by unfold loOf at hlo; omega
      have m1 : IntKind.i64.wrap ((k : Int) - h) = (k : Int) - h := IntWalk.i64_in _ (by omega)
      have m2 : max (0 : Int) ((k : Int) - h) = (lo : Int) := hlok.2.symm
      have hlk := hlok.1
      have hfl : (fnd l a h (k - 1)).length = k := by rw [fnd_len]; omega
      have hfk : fnd l a h k = fnd l a h (k - 1) ++ [bestTo l a h (fnd l a h (k - 1)) k lo (k - lo)] := by
        obtain ⟨k', hk'⟩ : ∃ k', k = k' + 1 := ⟨k - 1, by omega⟩
        subst hk'
        rw [fnd, Nat.add_sub_cancel, hlo]
      have hok := fnd_ok (l := l) (a := a) h20 (k - 1)
      obtain ⟨fl, hflq⟩ : ∃ q, fnd l a h (k - 1) = q := ⟨_, rfl⟩
      rw [hflq] at hfl hfk hok hrep
      have hrep0 : FRep wr F N (fl ++ [bestTo l a h fl k lo 0]) cs := hrep.list (fun j hj => ext_none)
      have HK := Lib.hid (And.intro hfl (And.intro hfk hok))
      have HS := Lib.hid (And.intro hrep0 (And.intro hbr r8))
      clear hlo hlok hfl hfk hok hrep hrep0 hflq hbr r8
      go_upto_region 6 with (fail)
      go_wp2_with fail
      rename World => wo
      go_loopw [11] (fun s11 wr => ∃ i : Nat, lo ≤ i ∧ i ≤ k ∧ s11 = .int .i64 i ∧ Below w.heap.size w wr ∧ wr.heap[w.heap.size]? = some (.cells zw 35) ∧ ∃ cs, FRep wr F N (fl ++ [bestTo l a h fl k lo (i - lo)]) cs) (fun i _ => k - (intOf i).toNat)
      case atStart => exact ⟨lo, by omega, by omega, rfl, HS.out.2.1, HS.out.2.2, cs, by rw [Nat.sub_self]; exact HS.out.1⟩
      case round =>
        clear HS
        obtain ⟨i, hil, hik, rfl, hbr, r8, cs2, hrep⟩ := hrel
        by_cases hilt : i < k
        · have hii : (i : Int) < (k : Int) := by omega
          have hstep : bestTo l a h fl k lo (i + 1 - lo) = offo (bestTo l a h fl k lo (i - lo)) (byWay l a h fl k i) := by
            rw [show i + 1 - lo = (i - lo) + 1 by omega, bestTo, show lo + (i - lo) = i by omega]
          have hcost := cost_any (a := ((a + i : Nat) : Int)) (b := ((a + k : Nat) : Int)) (h := h) wr (HL.out.1.nxt hbr) HL.out.2 (by omega) (by omega)
          have g1 : IntKind.i64.wrap ((a : Int) + (i : Int)) = ((a + i : Nat) : Int) := by rw [wrap_small _ (by omega) (by omega)]; omega
          have g2 : IntKind.i64.wrap ((a : Int) + (k : Int)) = ((a + k : Nat) : Int) := by rw [wrap_small _ (by omega) (by omega)]; omega
          obtain ⟨ai, hai⟩ : ∃ q, a + i = q := ⟨_, rfl⟩
          obtain ⟨ak, hak⟩ : ∃ q, a + k = q := ⟨_, rfl⟩
          have hbw : byWay l a h fl k i = if pgOk l (ai : Int) (ak : Int) h then (fl[i]?.join).map fun w => ⟨w.ends ++ [(ak : Int)], w.total + price l (ai : Int) (ak : Int) h⟩ else none := by unfold byWay; rw [hai, hak]
          have hcn : costN l (ai : Int) (ak : Int) h = if pgOk l (ai : Int) (ak : Int) h then price l (ai : Int) (ak : Int) h else 0 := rfl
          have hpr := price_rng (l := l) (a := (ai : Int)) (b := (ak : Int)) (h := h) h20
          rw [hai] at g1 hcost
          rw [hak] at g2 hcost
          obtain ⟨OK, hOK⟩ : ∃ q, pgOk l (ai : Int) (ak : Int) h = q := ⟨_, rfl⟩
          rw [hOK] at hbw hcn hcost hpr
          obtain ⟨PR, hPR⟩ : ∃ q, price l (ai : Int) (ak : Int) h = q := ⟨_, rfl⟩
          rw [hPR] at hbw hcn hpr
          obtain ⟨CN, hCN⟩ : ∃ q, costN l (ai : Int) (ak : Int) h = q := ⟨_, rfl⟩
          rw [hCN] at hcn hcost
          have HI := Lib.hid (And.intro hstep (And.intro hbw (And.intro hcn (And.intro hpr (And.intro hai hak)))))
          have HR := Lib.hid (And.intro hrep (And.intro hbr r8))
          clear hstep hbw hcn hpr hrep hbr r8 hOK hPR hCN hai hak
          go_wp2_with fail
          refine Calls.mono hcost ?_
          rintro e wz ⟨rfl, hbz⟩
          clear hcost
          have hrep := HR.out.1.nxt hbz
          have hbr := bNext HR.out.2.1 hbz
          have r8 := bBlk hbz (Array.getElem?_eq_some_iff.1 HR.out.2.2).1 HR.out.2.2
          clear hbz HR
          cases OK
          · have hst : bestTo l a h fl k lo (i + 1 - lo) = bestTo l a h fl k lo (i - lo) := by
              rw [HI.out.1, HI.out.2.1, if_neg Bool.false_ne_true]; rfl
            have HZ := Lib.hid (And.intro hrep (And.intro hbr (And.intro r8 hst)))
            clear hrep hbr r8 hst
            go_wp2_with fail
            go_roundw
            case rel => exact ⟨i + 1, by omega, by omega, by go_num, HZ.out.2.1, HZ.out.2.2.1, cs2, by rw [HZ.out.2.2.2]; exact HZ.out.1⟩
            case measure => simp [intOf]; omega
          · have hcn : CN = PR := by rw [HI.out.2.2.1, if_pos rfl]
            have hpr := HI.out.2.2.2.1 rfl
            have hbw : byWay l a h fl k i = (fl[i]?.join).map fun w => ⟨w.ends ++ [(ak : Int)], w.total + PR⟩ := by rw [HI.out.2.1, if_pos rfl]
            have hcel := hrep.cel i (by omega)
            rw [fst_join (by rw [HK.out.1]; exact hilt)] at hcel
            have hFz := (Array.getElem?_eq_some_iff.1 hrep.blk).1
            have hin : i < N := by omega
            have hin' : (i : Int) < (N : Int) := by omega
            have hkn' : (k : Int) < (N : Int) := by omega
            cases hfi : fl[i]?.join with
            | none =>
              rw [hfi] at hcel hbw
              have kany : wz.cell? ⟨F, i * 4 + 3, none⟩ = some (.bool false) := blk_cell hrep.blk hcel.2.2.2
              have hst : bestTo l a h fl k lo (i + 1 - lo) = bestTo l a h fl k lo (i - lo) := by rw [HI.out.1, hbw]; rfl
              have HZ := Lib.hid (And.intro hrep (And.intro hbr (And.intro r8 hst)))
              clear hrep hbr r8 hst hcel hbw hcn hpr hfi
              go_wp2_with fail
              go_roundw
              case rel => exact ⟨i + 1, by omega, by omega, by go_num, HZ.out.2.1, HZ.out.2.2.1, cs2, by rw [HZ.out.2.2.2]; exact HZ.out.1⟩
              case measure => simp [intOf]; omega
            | some x =>
              rw [hfi] at hcel hbw
              obtain ⟨A0, m0, c0, h0, h1, h2, h3', hiv⟩ := hcel
              obtain ⟨ox1, ox2, ox3, ox4⟩ := HK.out.2.2 i x hfi
              have hm0 : m0 ≤ 1000 := by have := hiv.iv.len; omega
              have kany : wz.cell? ⟨F, i * 4 + 3, none⟩ = some (.bool true) := blk_cell hrep.blk h3'
              have hrow : wz.rangeAt F (i * 4) [.slice A0 m0 c0, .int .i64 x.total, .int .i64 0] := fun j v hj => by
                match j, hj with
                | 0, hj => injection hj with hj; subst hj; exact blk_cell hrep.blk h0
                | 1, hj => injection hj with hj; subst hj; exact blk_cell hrep.blk h1
                | 2, hj => injection hj with hj; subst hj; exact blk_cell hrep.blk h2
              have hst : bestTo l a h fl k lo (i + 1 - lo) = offr (bestTo l a h fl k lo (i - lo)) ⟨x.ends ++ [(ak : Int)], x.total + PR⟩ := by rw [HI.out.1, hbw]; rfl
              obtain ⟨cw, hcw⟩ : ∃ q : List Value, [.slice A0 m0 c0, .int .i64 x.total, .int .i64 0] = q := ⟨_, rfl⟩
              rw [hcw] at hrow
              have hw3 : (Try.prog.info? 35).map (·.size) = some cw.length := by rw [← hcw]; exact wy_size
              have hw3' : (Try.prog.info? 35).map (·.size) = some cw.toArray.size := by rw [← hcw]; exact wy_size
              have hzc : zw.size = cw.toArray.size := by rw [hz3, ← hcw]; rfl
              have hc1 : cw.toArray.all (·.oneCell') = true := by rw [← hcw]; simp [Value.oneCell']
              obtain ⟨Z, hZ, z14, bZ⟩ := newRow wz zw cw.toArray 35
              have hbo : ∀ y, bestTo l a h fl k lo (i - lo) = some y → y.ends.length ≤ 1000000 := fun y hy => by
                have := bestTo_ok h20 HK.out.2.2 (l := l) (k := k) (lo := lo) (i - lo) (by omega) y hy
                have := this.2.2.1
                omega
              have HZ := Lib.hid (And.intro hrep (And.intro hbr (And.intro r8 (And.intro hst (And.intro hiv (And.intro z14 (And.intro bZ (And.intro hcw hbo))))))))
              clear hrep hbr r8 hst hiv z14 bZ hcw hbo h0 h1 h2 h3' hbw
              go_upto_region 12 with (first
                | (refine wpList_load_mid rfl 35 (.tmp 64) rfl F (i * 4) rfl cw _ hrow Try.underlying35 rfl hw3 ?_)
                | (refine wpList_new rfl hwz rfl ?_)
                | (refine wpList_store_row rfl 35 (.tmp 14) (.tmp 65) rfl _ cw.toArray rfl rfl _ zw (heap_alloc_new _ _) hw3' hzc hc1 ?_; (try rw [hZ]))
                | fail)
              obtain ⟨hrep, hbr, r8, hst, hiv, z14, bZ, hcw, hbo⟩ := HZ.out
              (try rw [hZ])
              clear hZ HZ
              have hrepZ := hrep.nxt bZ
              have hbrZ := bNext hbr bZ
              have r8Z := bBlk bZ (Array.getElem?_eq_some_iff.1 r8).1 r8
              have hivZ : IvN Z F A0 m0 c0 x.ends := hiv.but (but_of bZ)
              have hmlen := hiv.iv.len
              have k0 : Z.cell? ⟨wz.heap.size, 0, none⟩ = some (.slice A0 m0 c0) := blk_cell z14 (by rw [← hcw]; rfl)
              have k1 : Z.cell? ⟨wz.heap.size, 1, none⟩ = some (.int .i64 x.total) := blk_cell z14 (by rw [← hcw]; rfl)
              have lg := (Array.getElem?_eq_some_iff.1 z14).1
              have hFZ : F < Z.heap.size := by omega
              have hne : wz.heap.size ≠ F := by omega
              have hkN2 : k < N := hlt
              have hak := HI.out.2.2.2.2.2
              have g2' : IntKind.i64.wrap ((a : Int) + (k : Int)) = (ak : Int) := g2
              have g5 : IntKind.i64.wrap (x.total + PR) = x.total + PR := IntWalk.i64_in _ (by omega)
              (try rw [hcn])
              obtain ⟨g, hg⟩ : ∃ g, wz.heap.size = g := ⟨_, rfl⟩
              rw [hg] at k0 k1 lg hne
              try rw [hg]
              clear z14 hrep hbr r8 hiv bZ hcw hrow hw3 hw3' hzc hc1 hg kany hFz
              let S : World → Prop := fun w' => But Z.heap.size (· = F) Z w'
              have hS0 : S Z.drew := (But.refl _ _ _).drew
              have q0 : ∀ w', S w' → w'.cell? ⟨g, 0, none⟩ = some (.slice A0 m0 c0) := fun w' h => (World.cell?_of_block (a := ⟨g, 0, none⟩) (But.block (show But Z.heap.size (· = F) Z w' from h) g lg hne)).trans k0
              have q1 : ∀ w', S w' → w'.cell? ⟨g, 1, none⟩ = some (.int .i64 x.total) := fun w' h => (World.cell?_of_block (a := ⟨g, 1, none⟩) (But.block (show But Z.heap.size (· = F) Z w' from h) g lg hne)).trans k1
              clear k0 k1
              refine wp_region_held (S := S) (by kernel_rfl) ?_
              change wpAnyH _ _ _ _ S _ _ _ Z.drew
              change At 0 _
              iterate 5 (first | (apply tkA; (case hi => (simp only [List.getElem?_toArray, List.getElem?_cons_zero, List.getElem?_cons_succ]; rfl)); (case hw => rfl); (case hy => (intro w' hSw; have h1 := q0 w' hSw; (try simp only [S] at hSw); go_simp; (try with_reducible rfl))); (case hs => kernel_rfl); (case hf => kernel_rfl); (case hr => kernel_rfl); (case hQ => exact fun _ _ _ h => h); (case hS => assumption); (try simp only [Act.put, List.setIfInBounds_toArray, List.set_cons_zero, List.set_cons_succ, Nat.reduceAdd])) | (apply skA; (case hi => (simp only [List.getElem?_toArray, List.getElem?_cons_zero, List.getElem?_cons_succ]; rfl)); (case hw => rfl); (case hs => kernel_rfl); (case hf => kernel_rfl); (case hr => kernel_rfl); (case hQ => exact fun _ _ _ h => h); (case hS => assumption); (try simp only [Act.put, List.setIfInBounds_toArray, List.set_cons_zero, List.set_cons_succ, Nat.reduceAdd])))
              change wpAnyH _ _ _ _ _ _ _ _ _
              change At 6 _
              iterate 3 (first | (apply tkA; (case hi => (simp only [List.getElem?_toArray, List.getElem?_cons_zero, List.getElem?_cons_succ]; rfl)); (case hw => rfl); (case hy => (intro w' hSw; (try simp only [S] at hSw); go_simp; (try with_reducible rfl))); (case hs => kernel_rfl); (case hf => kernel_rfl); (case hr => kernel_rfl); (case hQ => exact fun _ _ _ h => h); (case hS => assumption); (try simp only [Act.put, List.setIfInBounds_toArray, List.set_cons_zero, List.set_cons_succ, Nat.reduceAdd])) | (apply skA; (case hi => (simp only [List.getElem?_toArray, List.getElem?_cons_zero, List.getElem?_cons_succ]; rfl)); (case hw => rfl); (case hs => kernel_rfl); (case hf => kernel_rfl); (case hr => kernel_rfl); (case hQ => exact fun _ _ _ h => h); (case hS => assumption); (try simp only [Act.put, List.setIfInBounds_toArray, List.set_cons_zero, List.set_cons_succ, Nat.reduceAdd])))
              change wpAnyH _ _ _ _ _ _ _ _ _
              change At 11 _
              iterate 4 (first | (apply tkA; (case hi => (simp only [List.getElem?_toArray, List.getElem?_cons_zero, List.getElem?_cons_succ]; rfl)); (case hw => rfl); (case hy => (intro w' hSw; have h1 := q1 w' hSw; (try simp only [S] at hSw); go_simp; (try with_reducible rfl))); (case hs => kernel_rfl); (case hf => kernel_rfl); (case hr => kernel_rfl); (case hQ => exact fun _ _ _ h => h); (case hS => assumption); (try simp only [Act.put, List.setIfInBounds_toArray, List.set_cons_zero, List.set_cons_succ, Nat.reduceAdd])) | (apply skA; (case hi => (simp only [List.getElem?_toArray, List.getElem?_cons_zero, List.getElem?_cons_succ]; rfl)); (case hw => rfl); (case hs => kernel_rfl); (case hf => kernel_rfl); (case hr => kernel_rfl); (case hQ => exact fun _ _ _ h => h); (case hS => assumption); (try simp only [Act.put, List.setIfInBounds_toArray, List.set_cons_zero, List.set_cons_succ, Nat.reduceAdd])))
              change wpAnyH _ _ _ _ _ _ _ _ _
              clear q0 q1
              refine wpAnyH_ready (rs := [5, 9]) (by kernel_rfl) (by simp) (AllReadyH.cons (o := ?oo5_23) ?hoo5_23 (fun K hK => ?step5) (AllReadyH.cons (o := ?oo9_23) ?hoo9_23 (fun K hK => ?step9) AllReadyH.nil)); (case hoo5_23 => (simp only [List.getElem?_toArray, List.getElem?_cons_zero, List.getElem?_cons_succ]; rfl)); (case hoo9_23 => (simp only [List.getElem?_toArray, List.getElem?_cons_zero, List.getElem?_cons_succ]; rfl))
              case step5 =>
                go_simp
                refine Calls.mono (clone_any Z.drew (hivZ.iv.nxt (Below.refl _ _).drew) (by omega)) ?_
                rintro e x5 ⟨A5, c5, rfl, hown, hb5⟩
                have hS1 : S x5 := (But.drew (But.refl _ _ Z)).trans (but_of (show Below Z.heap.size Z.drew x5 from hb5))
                refine hK.out _ _ hS1 (fun _ => ?_)
                clear hK K
                (try simp only [Act.put, List.setIfInBounds_toArray, List.set_cons_zero, List.set_cons_succ])
                have hz5 : Z.heap.size ≤ x5.heap.size := hb5.size
                have hS2 : S (x5.alloc (.cells #[.int .i64 (ak : Int)] 3)) := hS1.alloc hz5 _
                have hbs := ints1 (ak : Int) x5
                refine wpAnyH_ready (rs := [9]) (by kernel_rfl) (by simp) (AllReadyH.cons (o := ?oo9_24) ?hoo9_24 (fun K hK => ?steponly24) AllReadyH.nil); (case hoo9_24 => (simp only [List.getElem?_toArray, List.getElem?_cons_zero, List.getElem?_cons_succ]; rfl))
                go_simp
                refine hK.out _ _ hS2 (fun _ => ?_)
                clear hK K hbs
                (try simp only [Act.put, List.setIfInBounds_toArray, List.set_cons_zero, List.set_cons_succ])
                have hsx : Sl (x5.alloc (.cells #[.int .i64 (ak : Int)] 3)) (x5.alloc (.cells #[.int .i64 (ak : Int)] 3)).heap.size 1 (some ⟨x5.heap.size, 0, none⟩) 1 (ivs [(ak : Int)]) := Sl.new (sz := 1) (n := 1) (heap_alloc_new x5 (.cells #[.int .i64 (ak : Int)] 3)) rfl
                refine wpAnyH_ready (rs := [10]) (by kernel_rfl) (by simp) (AllReadyH.cons (o := ?oo10_25) ?hoo10_25 (fun K hK => ?steponly25) AllReadyH.nil); (case hoo10_25 => (simp only [List.getElem?_toArray, List.getElem?_cons_zero, List.getElem?_cons_succ]; rfl))
                refine step_app _ rfl (.tmp 71) (.tmp 75) 33 rfl (base := Z.heap.size) Try.underlying33 elemI rfl (World.ownsRow.alloc hown _) rfl hsx (one_ivs _) (by simp only [maxLen]; omega) (by omega) (by simp; omega) ?_
                intro A76 c76 w76 hown76 hg76 hb76 hat76
                have hown4 : w76.ownsRow Z.heap.size 3 1 (.slice A76 (m0 + 1) c76) (m0 + 1) (ivs (x.ends ++ [(ak : Int)])) := by rw [ivs_append]; exact hown76
                have hge := own_ge hown4
                obtain ⟨_, _, e76, hcap76, -⟩ := own_form hown4
                cases e76
                have hZ76 : Below Z.heap.size Z w76 := (((Below.refl _ Z).drew.trans (show Below Z.heap.size Z.drew x5 from hb5)).alloc hz5 _).trans hb76
                have hivN : IvN w76 F A76 (m0 + 1) c76 (x.ends ++ [(ak : Int)]) := ⟨⟨fun z hz => by
                  simp only [List.mem_append, List.mem_cons, List.mem_nil_iff, or_false] at hz
                  rcases hz with hz | hz
                  · have := ox4 z hz; omega
                  · omega, by rw [List.length_append, hmlen]; rfl, Sl.of_own hown4, hcap76⟩, fun b o i e => by
                  have := hge b (by rw [e]; rfl)
                  omega⟩
                have hS3 : S w76 := but_of hZ76
                refine hK.out _ _ hS3 (fun _ => ?_)
                clear hK K
                (try simp only [Act.put, List.setIfInBounds_toArray, List.set_cons_zero, List.set_cons_succ])
                refine wpAnyH_take (i := 15) (oi := ?oi_21) (v := ?v_21) ?ho_21 ?h1_21 ?h2_21 ?h3_21 ?hq_21 (Or.inl ⟨?hw_21, ?hy_21⟩) ?hs_21 ?rest_21; (case h2_21 => kernel_rfl); (case h3_21 => kernel_rfl); (case ho_21 => (simp only [List.getElem?_toArray, List.getElem?_cons_zero, List.getElem?_cons_succ]; rfl)); (case h1_21 => kernel_rfl); (case hq_21 => exact fun _ _ _ h => h); (case hw_21 => rfl); (case hy_21 => (intro w' hSw; refine exec_built (t := 35) (cs := #[.slice A76 (m0 + 1) c76, .int .i64 (x.total + PR), .int .i64 0]) (parts := #[(0, .tmp 76), (1, .tmp 80)]) ?_ ?_ w'; exact rfl; simp only [List.map_toArray, List.map_cons, List.map_nil]; exact built_wy _ _ _ _)); (case hs_21 => assumption); (try simp only [Act.put, List.setIfInBounds_toArray, List.set_cons_zero, List.set_cons_succ])
                have hoff := offer_step (y := ⟨x.ends ++ [(ak : Int)], x.total + PR⟩) w76 (hrepZ.nxt hZ76) hkN2 HK.out.1 hivN (by omega) hbo
                refine wpAnyH_ready (rs := [16]) (by kernel_rfl) (by simp) (AllReadyH.cons (o := ?oo16_26) ?hoo16_26 (fun K hK => ?steponly26) AllReadyH.nil); (case hoo16_26 => (simp only [List.getElem?_toArray, List.getElem?_cons_zero, List.getElem?_cons_succ]; rfl))
                go_simp
                refine Calls.mono hoff ?_
                rintro e w82 ⟨rfl, hb82, cs3, hrep3⟩
                have hz76 := hZ76.size
                have hS4 : S w82 := (but_of hZ76).trans (but_less hb82 hz76)
                refine hK.out _ _ hS4 (fun _ => ?_)
                clear hK K hoff
                (try simp only [Act.put, List.setIfInBounds_toArray, List.set_cons_zero, List.set_cons_succ])
                refine wpAnyH_done (by kernel_rfl) ?_ _
                have hbw82 : Below w.heap.size w w82 := (bNext hbrZ hZ76).trans (hb82.below (by have := hbrZ.size; omega) (fun k e => by have := HFw.out; omega))
                have r82 := hb82.blk (k := w.heap.size) (by have := hbrZ.size; have := (Array.getElem?_eq_some_iff.1 r8Z).1; omega) (by have := HFw.out; omega) (bBlk hZ76 (Array.getElem?_eq_some_iff.1 r8Z).1 r8Z)
                have HY2 := Lib.hid (And.intro hrep3 (And.intro hbw82 (And.intro r82 hst)))
                clear hrep3 hbw82 r82 hst hS0 hS3 hS4 hb82 hZ76 hivN hown4 hge hrepZ hbrZ r8Z hivZ hbo
                go_wp2_with fail
                go_roundw
                case rel => exact ⟨i + 1, by omega, by omega, by go_num, HY2.out.2.1, HY2.out.2.2.1, cs3, by rw [HY2.out.2.2.2]; exact HY2.out.1⟩
                case measure => simp [intOf]; omega
              case step9 =>
                have hS1 : S (Z.drew.alloc (.cells #[.int .i64 (ak : Int)] 3)) := (But.drew (But.refl _ _ Z)).alloc (Nat.le_refl _) _
                have hbs := ints1 (ak : Int) Z.drew
                have b9 : (Z.drew.alloc (.cells #[.int .i64 (ak : Int)] 3)).heap[Z.heap.size]? = some (.cells #[.int .i64 (ak : Int)] 3) := heap_alloc_new Z.drew _
                have hbZ9 : Below Z.heap.size Z (Z.drew.alloc (.cells #[.int .i64 (ak : Int)] 3)) := ((Below.refl _ Z).drew).alloc (Nat.le_refl _) _
                obtain ⟨U, hU⟩ : ∃ q, Z.drew.alloc (.cells #[.int .i64 (ak : Int)] 3) = q := ⟨_, rfl⟩
                rw [hU] at hS1 b9 hbZ9 hbs
                clear hU
                go_simp
                refine hK.out _ _ hS1 (fun _ => ?_)
                clear hK K hbs
                (try simp only [Act.put, List.setIfInBounds_toArray, List.set_cons_zero, List.set_cons_succ])
                refine wpAnyH_ready (rs := [5]) (by kernel_rfl) (by simp) (AllReadyH.cons (o := ?oo5_27) ?hoo5_27 (fun K hK => ?steponly27) AllReadyH.nil); (case hoo5_27 => (simp only [List.getElem?_toArray, List.getElem?_cons_zero, List.getElem?_cons_succ]; rfl))
                go_simp
                refine Calls.mono (clone_any U (hivZ.iv.nxt hbZ9) (by omega)) ?_
                rintro e x5 ⟨A5, c5, rfl, hown, hb5⟩
                have hzU := hbZ9.size
                have hS2 : S x5 := but_of (hbZ9.trans (hb5.mono hzU))
                refine hK.out _ _ hS2 (fun _ => ?_)
                clear hK K
                (try simp only [Act.put, List.setIfInBounds_toArray, List.set_cons_zero, List.set_cons_succ])
                have hz5 : Z.heap.size ≤ x5.heap.size := by have := hb5.size; omega
                have b95 := bBlk hb5 (Array.getElem?_eq_some_iff.1 b9).1 b9
                have hsx : Sl x5 x5.heap.size 1 (some ⟨Z.heap.size, 0, none⟩) 1 (ivs [(ak : Int)]) := Sl.new (sz := 1) (n := 1) b95 rfl
                have hownZ := own_base hown hzU
                refine wpAnyH_ready (rs := [10]) (by kernel_rfl) (by simp) (AllReadyH.cons (o := ?oo10_28) ?hoo10_28 (fun K hK => ?steponly28) AllReadyH.nil); (case hoo10_28 => (simp only [List.getElem?_toArray, List.getElem?_cons_zero, List.getElem?_cons_succ]; rfl))
                refine step_app _ rfl (.tmp 71) (.tmp 75) 33 rfl (base := Z.heap.size) Try.underlying33 elemI rfl hownZ rfl hsx (one_ivs _) (by simp only [maxLen]; omega) (by omega) hz5 ?_
                intro A76 c76 w76 hown76 hg76 hb76 hat76
                have hown4 : w76.ownsRow Z.heap.size 3 1 (.slice A76 (m0 + 1) c76) (m0 + 1) (ivs (x.ends ++ [(ak : Int)])) := by rw [ivs_append]; exact hown76
                have hge := own_ge hown4
                obtain ⟨_, _, e76, hcap76, -⟩ := own_form hown4
                cases e76
                have hZ76 : Below Z.heap.size Z w76 := (hbZ9.trans (hb5.mono hzU)).trans hb76
                have hivN : IvN w76 F A76 (m0 + 1) c76 (x.ends ++ [(ak : Int)]) := ⟨⟨fun z hz => by
                  simp only [List.mem_append, List.mem_cons, List.mem_nil_iff, or_false] at hz
                  rcases hz with hz | hz
                  · have := ox4 z hz; omega
                  · omega, by rw [List.length_append, hmlen]; rfl, Sl.of_own hown4, hcap76⟩, fun b o i e => by
                  have := hge b (by rw [e]; rfl)
                  omega⟩
                have hS3 : S w76 := but_of hZ76
                refine hK.out _ _ hS3 (fun _ => ?_)
                clear hK K
                (try simp only [Act.put, List.setIfInBounds_toArray, List.set_cons_zero, List.set_cons_succ])
                refine wpAnyH_take (i := 15) (oi := ?oi_22) (v := ?v_22) ?ho_22 ?h1_22 ?h2_22 ?h3_22 ?hq_22 (Or.inl ⟨?hw_22, ?hy_22⟩) ?hs_22 ?rest_22; (case h2_22 => kernel_rfl); (case h3_22 => kernel_rfl); (case ho_22 => (simp only [List.getElem?_toArray, List.getElem?_cons_zero, List.getElem?_cons_succ]; rfl)); (case h1_22 => kernel_rfl); (case hq_22 => exact fun _ _ _ h => h); (case hw_22 => rfl); (case hy_22 => (intro w' hSw; refine exec_built (t := 35) (cs := #[.slice A76 (m0 + 1) c76, .int .i64 (x.total + PR), .int .i64 0]) (parts := #[(0, .tmp 76), (1, .tmp 80)]) ?_ ?_ w'; exact rfl; simp only [List.map_toArray, List.map_cons, List.map_nil]; exact built_wy _ _ _ _)); (case hs_22 => assumption); (try simp only [Act.put, List.setIfInBounds_toArray, List.set_cons_zero, List.set_cons_succ])
                have hoff := offer_step (y := ⟨x.ends ++ [(ak : Int)], x.total + PR⟩) w76 (hrepZ.nxt hZ76) hkN2 HK.out.1 hivN (by omega) hbo
                refine wpAnyH_ready (rs := [16]) (by kernel_rfl) (by simp) (AllReadyH.cons (o := ?oo16_29) ?hoo16_29 (fun K hK => ?steponly29) AllReadyH.nil); (case hoo16_29 => (simp only [List.getElem?_toArray, List.getElem?_cons_zero, List.getElem?_cons_succ]; rfl))
                go_simp
                refine Calls.mono hoff ?_
                rintro e w82 ⟨rfl, hb82, cs3, hrep3⟩
                have hz76 := hZ76.size
                have hS4 : S w82 := (but_of hZ76).trans (but_less hb82 hz76)
                refine hK.out _ _ hS4 (fun _ => ?_)
                clear hK K hoff
                (try simp only [Act.put, List.setIfInBounds_toArray, List.set_cons_zero, List.set_cons_succ])
                refine wpAnyH_done (by kernel_rfl) ?_ _
                have hbw82 : Below w.heap.size w w82 := (bNext hbrZ hZ76).trans (hb82.below (by have := hbrZ.size; omega) (fun k e => by have := HFw.out; omega))
                have r82 := hb82.blk (k := w.heap.size) (by have := hbrZ.size; have := (Array.getElem?_eq_some_iff.1 r8Z).1; omega) (by have := HFw.out; omega) (bBlk hZ76 (Array.getElem?_eq_some_iff.1 r8Z).1 r8Z)
                have HY2 := Lib.hid (And.intro hrep3 (And.intro hbw82 (And.intro r82 hst)))
                clear hrep3 hbw82 r82 hst hS0 hS3 hS4 hb82 hZ76 hivN hown4 hge hrepZ hbrZ r8Z hivZ hbo
                go_wp2_with fail
                go_roundw
                case rel => exact ⟨i + 1, by omega, by omega, by go_num, HY2.out.2.1, HY2.out.2.2.1, cs3, by rw [HY2.out.2.2.2]; exact HY2.out.1⟩
                case measure => simp [intOf]; omega
        · obtain rfl : i = k := by omega
          have hii : ¬ (i : Int) < (i : Int) := by omega
          have hrepf : FRep wr F N (fnd l a h i) cs2 := by rw [HK.out.2.1]; exact hrep
          have HZ := Lib.hid (And.intro hrepf (And.intro hbr r8))
          clear hrepf hrep hbr r8
          go_wp2_with fail
          go_roundw
          case rel => exact ⟨i + 1, by omega, by omega, by go_num, HZ.out.2.1, HZ.out.2.2, cs2, by rw [Nat.add_sub_cancel]; exact HZ.out.1⟩
          case measure => simp [intOf]; omega
    · obtain rfl : k = N := by omega
      have hi1 : ¬ (k : Int) ≤ (K : Int) := by omega
      obtain rfl : K = k - 1 := by omega
      have hcel := hrep.cel (k - 1) (by omega)
      have hok := fnd_ok (l := l) (a := a) h20 (k - 1) (k - 1)
      have hkk : ((k - 1 : Nat) : Int) < (k : Int) := by omega
      have hkk2 : k - 1 < k := by omega
      have hrow : ∃ A0 m0 c0, wr.rangeAt F ((k - 1) * 4) [.slice A0 m0 c0, .int .i64 (((fnd l a h (k - 1))[k - 1]?.join).getD ⟨[], 0⟩).total, .int .i64 0] ∧ IvN wr F A0 m0 c0 (((fnd l a h (k - 1))[k - 1]?.join).getD ⟨[], 0⟩).ends := by
        cases ho : (fnd l a h (k - 1))[k - 1]?.join with
        | none =>
          rw [ho] at hcel
          refine ⟨none, 0, 0, fun j v hj => ?_, ⟨⟨by simp, rfl, Sl.nil, Nat.le_refl _⟩, fun b o i e => by cases e⟩⟩
          match j, hj with
          | 0, hj => injection hj with hj; subst hj; exact blk_cell hrep.blk hcel.1
          | 1, hj => injection hj with hj; subst hj; exact blk_cell hrep.blk hcel.2.1
          | 2, hj => injection hj with hj; subst hj; exact blk_cell hrep.blk hcel.2.2.1
        | some y =>
          rw [ho] at hcel
          obtain ⟨A0, m0, c0, h0, h1, h2, -, h4⟩ := hcel
          refine ⟨A0, m0, c0, fun j v hj => ?_, h4⟩
          match j, hj with
          | 0, hj => injection hj with hj; subst hj; exact blk_cell hrep.blk h0
          | 1, hj => injection hj with hj; subst hj; exact blk_cell hrep.blk h1
          | 2, hj => injection hj with hj; subst hj; exact blk_cell hrep.blk h2
      obtain ⟨A0, m0, c0, hrow, hiv⟩ := hrow
      have hWr := HWR.out
      rw [hWr] at hrow hiv
      obtain ⟨cw, hcw⟩ : ∃ q : List Value, [.slice A0 m0 c0, .int .i64 Wr.total, .int .i64 0] = q := ⟨_, rfl⟩
      rw [hcw] at hrow
      have hw3 : (Try.prog.info? 35).map (·.size) = some cw.length := by rw [← hcw]; exact wy_size
      have hw3' : (Try.prog.info? 35).map (·.size) = some cw.toArray.size := by rw [← hcw]; exact wy_size
      have hzc : zw.size = cw.toArray.size := by rw [hz3, ← hcw]; rfl
      have hc1 : cw.toArray.all (·.oneCell') = true := by rw [← hcw]; simp [Value.oneCell']
      have hFz := (Array.getElem?_eq_some_iff.1 hrep.blk).1
      have HZ := Lib.hid (And.intro hiv (And.intro hbr hcw))
      clear hrep hiv hbr hcw hcel hok hWr
      go_wp2_with (first
        | (refine wpList_load_mid rfl 35 (.tmp 88) rfl F ((k - 1) * 4) rfl cw _ hrow Try.underlying35 rfl hw3 ?_)
        | (refine wpList_store_row rfl 35 (.tmp 8) (.tmp 89) rfl _ cw.toArray rfl rfl _ zw r8 hw3' hzc hc1 ?_)
        | fail)
      generalize hX : World.setRow _ _ _ = X9
      have b9 : X9.heap[w.heap.size]? = some (.cells cw.toArray 35) := by rw [← hX]; exact setRow_heap _ _ _ _ _ _ r8
      have hBX : Below w.heap.size w X9 := by rw [← hX]; exact bSetRow HZ.out.2.1 (Nat.le_refl _) _
      have hsz9 : wr.heap.size ≤ X9.heap.size := by rw [← hX]; exact (bSetRow (Below.refl w.heap.size wr) (Nat.le_refl _) _).size
      have hivX : IvAt X9 X9.heap.size A0 m0 c0 Wr.ends := by
        obtain ⟨hw, hlen, hsl, hcap⟩ := HZ.out.1.iv
        refine ⟨hw, hlen, ⟨hsl.len, fun h0 => ?_⟩, hcap⟩
        obtain ⟨b, o, e, hlt, hr⟩ := hsl.at_ h0
        refine ⟨b, o, e, by omega, fun j v hj => ?_⟩
        have hne : b ≠ w.heap.size := by have := HZ.out.1.far b o none e; have := HFw.out; omega
        refine Eq.trans (World.cell?_of_block (a := ⟨b, o + j, none⟩) ?_) (hr j v hj)
        rw [← hX]
        exact setRow_other _ _ _ _ hne
      clear hX
      have hld := run_loadVar_row (P := Try.prog) X9 _ _ 35 _ _ _ b9 Try.underlying35 rfl hw3'
      refine bodyPost_ret (by simp [results, Try.results21, Act.put, asAddr, Result.andThen, hld]; try rfl) rfl ?_
      exact ⟨A0, m0, c0, by rw [← HZ.out.2.2]; rfl, hivX, hBX⟩
end Go.Proofs.Ytdnpcplboohdpaa
