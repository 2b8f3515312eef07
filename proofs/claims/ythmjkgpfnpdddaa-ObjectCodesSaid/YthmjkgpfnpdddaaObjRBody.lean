/- The walk over the reference's Body. -/
import Derived.Test.YthmjkgpfnpdddaaObjRef
import Derived.Test.YthmjkgpfnpdddaaShaSum
namespace Go.Proofs.Ythmjkgpfnpdddaa
set_option linter.unusedSimpArgs false
set_option linter.unusedVariables false
open Go.RowKit Go.ChangeShapes Go.WideShapes Go.Sort
attribute [-go_sem] Builtin.append_

def gtv (k : Int) (A : Option Addr) (n c : Nat) (e : Int) : Value := .agg #[.int .i64 k, .slice A n c, .int .i64 e]
def gtz : Array Value := #[.int .i64 0, .slice none 0 0, .int .i64 0]
theorem gtZ : ZeroIs Try.prog 33 gtz := by unfold ZeroIs; kernel_rfl
theorem gt_info (a b c : Value) : (Try.prog.info? 33).map (·.size) = some (#[a, b, c] : Array Value).size := by kernel_rfl
theorem built_got11 : Try.prog.built 33 [(2, .int .i64 11)] = some #[.int .i64 0, .slice none 0 0, .int .i64 11] := by kernel_rfl
theorem built_got (k : Int) (A : Option Addr) (n c : Nat) : Try.prog.built 33 [(0, .int .i64 k), (1, .slice A n c)] = some #[.int .i64 k, .slice A n c, .int .i64 0] := by kernel_rfl
theorem one_gt (k : Int) (A : Option Addr) (n c : Nat) (e : Int) : ∀ u ∈ (#[.int .i64 k, .slice A n c, .int .i64 e] : Array Value), u.oneCell' = true := by
  intro u hu
  simp at hu
  rcases hu with rfl | rfl | rfl <;> rfl
/-- an object, or an error, as the reference says it -/
def RBodP (w : World) (l : List Blk) (e : Ending) (w' : World) : Prop :=
  ∃ A n c, e = .returned (gtv (kindOf l) A n c (bodyE l)) ∧ n = (bodyOf l).length ∧ n ≤ c ∧ c ≤ maxLen ∧ Sl w' w'.heap.size 1 A n (bvs (bodyOf l)) ∧ Below w.heap.size w w'
theorem RBodP.no {w w' : World} {l : List Blk} (hn : isO l = false) (h : Below w.heap.size w w') : RBodP w l (.returned (gtv 0 none 0 0 11)) w' := by
  have e1 : kindOf l = 0 := by unfold kindOf; rw [hn]; rfl
  have e2 : bodyOf l = [] := by unfold bodyOf; rw [hn]; rfl
  have e3 : bodyE l = 11 := by unfold bodyE; rw [hn]; rfl
  refine ⟨none, 0, 0, by rw [e1, e3], by rw [e2]; rfl, Nat.le_refl _, by simp [maxLen], by rw [e2]; exact Sl.nil, h⟩
set_option maxHeartbeats 16000000 in
set_option maxRecDepth 100000 in
theorem rbody_any {A : Option Addr} {n c : Nat} {l : List Blk} (w : World) (h : BAt w w.heap.size A n c l) (hc : n ≤ 1000000) : Calls Try.prog 17 #[.slice A n c] w (RBodP w l) := by
  have hln := h.len
  have HL := Lib.hid hln
  have HH := Lib.hid h
  clear hln h
  go_enter Try.func17, Try.ntmps17
  obtain ⟨z, hz⟩ : ∃ q, gtz = q := ⟨_, rfl⟩
  have hzz := gtZ
  rw [hz] at hzz
  go_upto_region 1 with (first | (refine wpList_new rfl hzz rfl ?_) | fail)
  obtain ⟨W, hW⟩ : ∃ q, w.alloc (.cells z 33) = q := ⟨_, rfl⟩
  have a2 : W.heap[w.heap.size]? = some (.cells z 33) := by rw [← hW]; exact heap_alloc_new _ _
  have hB : Below w.heap.size w W := by rw [← hW]; exact (Below.refl _ _).alloc (Nat.le_refl _) _
  have l2 := (Array.getElem?_eq_some_iff.1 a2).1
  try rw [hW]
  have hzs : z.size = 3 := by rw [← hz]; rfl
  clear hW hz
  have hbat := HH.out.nxt hB
  have H1 := Lib.hid (And.intro hbat (And.intro a2 hB))
  clear hbat a2 hB
  go_wp2_with fail
  go_loopw [3, 4] (fun sb si wr => ∃ j : Nat, j ≤ n ∧ si = .int .i64 j ∧ wr.ownsRow W.heap.size 5 1 sb (j * 128) (bvs (flatTo l j)) ∧ Below W.heap.size W wr) (fun _ i _ => n - (intOf i).toNat)
  case atStart => exact ⟨0, by omega, rfl, by rw [flatTo_zero]; exact World.ownsRow_nil _ _ _ _, Below.refl _ _⟩
  case round =>
    obtain ⟨j, hj, rfl, hown, hbr⟩ := hrel
    obtain ⟨A17, c17, rfl, hc17⟩ := own_form hown
    by_cases hlt : j < n
    · obtain ⟨x, hx⟩ : ∃ x, l[j]? = some x := ⟨_, List.getElem?_eq_getElem (by rw [HL.out]; exact hlt)⟩
      have hxo := H1.out.1.all x (List.mem_of_getElem? hx)
      obtain ⟨b', o', rfl, hbB, hxr⟩ := H1.out.1.entry hx
      replace hxr := bRange hbr (by omega) hxr
      have hfs := flatTo_succ hx
      have hi1 : (j : Int) < (n : Int) := by omega
      have hzr := hbr.size
      have hxs2 : Sl wr wr.heap.size 1 (some ⟨b', o' + j * 128, none⟩) 128 (bvs x) := ⟨by rw [bvs_len, hxo], fun _ => ⟨b', o' + j * 128, rfl, by omega, hxr⟩⟩
      have HR := Lib.hid (And.intro hbr hfs)
      clear hbr hfs hxr hx
      go_wp2_with (first
        | (at_builtin; go_loud (refine wpList_app _ rfl (.tmp 16) (.tmp 20) 22 rfl (base := W.heap.size) Try.underlying22 elemC rfl hown rfl hxs2 (oneCell_bvs _) (by simp only [maxLen]; omega) (by omega) hzr ?_; intro A41 c41 w41 hown4 hg4 hb4 hat4))
        | fail)
      refine ⟨⟨j + 1, by omega, by go_num, ?_, HR.out.1.trans hb4⟩, by simp [intOf]; omega⟩
      rw [HR.out.2, bvs_append, show (j + 1) * 128 = j * 128 + 128 by omega]
      exact hown4
    · obtain rfl : j = n := by omega
      have hi1 : ¬ (j : Int) < (j : Int) := by omega
      rw [show flatTo l j = l.flatten by rw [← flatTo_all, HL.out]] at hown
      have hbat := H1.out.1.nxt hbr
      have a2 := bBlk hbr l2 H1.out.2.1
      have hB := bNext H1.out.2.2 (hbr)
      by_cases h0 : j = 0
      · subst h0
        have hl : l = [] := List.eq_nil_of_length_eq_zero HL.out
        have hno : isO l = false := by rw [hl]; rfl
        have HN := Lib.hid (And.intro hno hB)
        clear hno hbat hB hown hbr hl
        have l3 := (Array.getElem?_eq_some_iff.1 a2).1
        go_wp2_with (first
          | (refine wpList_built (o := ⟨some 25, _, _, _, _, _⟩) rfl 33 #[(2, .const (.int .i64 11))] rfl (cs := #[.int .i64 0, .slice none 0 0, .int .i64 11]) (by simp only [List.map_toArray, List.map_cons, List.map_nil]; exact built_got11) ?_)
          | (refine wpList_store_row rfl 33 (.tmp 2) (.tmp 25) rfl _ #[.int .i64 0, .slice none 0 0, .int .i64 11] rfl rfl _ z a2 (gt_info _ _ _) (by rw [hzs]; rfl) (by simp [Value.oneCell']) ?_)
          | fail)
        generalize hX : World.setRow _ _ _ = X9
        have b9 : X9.heap[w.heap.size]? = some (.cells #[.int .i64 0, .slice none 0 0, .int .i64 11] 33) := by rw [← hX]; exact setRow_heap _ _ _ _ _ _ a2
        have hBX : Below w.heap.size w X9 := by rw [← hX]; exact bSetRow HN.out.2 (Nat.le_refl _) _
        clear hX
        have hld := run_loadVar_row (P := Try.prog) X9 _ _ 33 _ _ _ b9 Try.underlying33 rfl (gt_info _ _ _)
        refine bodyPost_ret (by simp [results, Try.results17, Act.put, asAddr, Result.andThen, hld]; try rfl) rfl ?_
        exact RBodP.no HN.out.1 hBX
      · have hs17 := Sl.of_own hown
        obtain ⟨p, q, rfl, hp, -⟩ := hs17.at_ (by omega)
        have hfl : l.flatten.length = j * 128 := by rw [flat_len HH.out.all, HL.out]
        have k0 := hs17.cellAt rfl (i := 0) (by omega)
        have k1 := hs17.cellAt rfl (i := 1) (by omega)
        have k2 := hs17.cellAt rfl (i := 2) (by omega)
        rw [Nat.add_zero] at k0
        have b0 := (at8 l.flatten 0).toNat_lt
        have b1 := (at8 l.flatten 1).toNat_lt
        have b2 := (at8 l.flatten 2).toNat_lt
        have hkd : obKind l = (((at8 l.flatten 0).toNat : Nat) : Int) := rfl
        have hNn : obN l = (at8 l.flatten 1).toNat * 256 + (at8 l.flatten 2).toNat := rfl
        generalize (at8 l.flatten 0).toNat = X0 at *
        generalize (at8 l.flatten 1).toNat = X at *
        generalize (at8 l.flatten 2).toNat = Y at *
        obtain ⟨N, hN⟩ : ∃ q, obN l = q := ⟨_, rfl⟩
        rw [hN] at hNn
        have e1 : IntKind.i64.wrap ((X : Int) * 256) = (X : Int) * 256 := wrap_small _ (by omega) (by omega)
        have e2 : IntKind.i64.wrap (X : Int) = (X : Int) := wrap_small _ (by omega) (by omega)
        have e3 : IntKind.i64.wrap (Y : Int) = (Y : Int) := wrap_small _ (by omega) (by omega)
        have e4 : IntKind.i64.wrap ((X : Int) * 256 + (Y : Int)) = (N : Int) := by rw [wrap_small _ (by omega) (by omega)]; omega
        have e5 : IntKind.i64.wrap (X0 : Int) = (X0 : Int) := wrap_small _ (by omega) (by omega)
        have hNl : N < 65536 := by omega
        obtain ⟨m, hm⟩ : ∃ m, j * 128 = m := ⟨_, rfl⟩
        rw [hm] at hfl hc17 hs17 ⊢
        have g0 : 0 < m := by omega
        have g1 : (1 : Int) < (m : Int) := by omega
        have g2 : (2 : Int) < (m : Int) := by omega
        have g3 : (0 : Int) < (m : Int) := by omega
        have g4 : ((m : Int) == 0) = false := by simp; omega
        have g5 : 1 < m := by omega
        have g6 : 2 < m := by omega
        have g7 : 128 ≤ m := by omega
        have l3 := (Array.getElem?_eq_some_iff.1 a2).1
        have HR := Lib.hid (And.intro hbat (And.intro a2 (And.intro hB (And.intro hs17 (And.intro hkd (And.intro hN hfl))))))
        have HM := Lib.hid (And.intro hm h0)
        have hpz : p < wr.heap.size := hp
        clear hbat a2 hB hs17 hkd hN hfl hm h0 hown hbr hNn
        go_upto_region 8 with (fail)
        go_quiet (fail)
        obtain ⟨V, hV⟩ : ∃ q, wr.drewN nq = q := ⟨_, rfl⟩
        have hbV : Below wr.heap.size wr V := by rw [← hV]; exact bDrewN (Below.refl _ _) nq
        rw [hV]
        have hbat := HR.out.1.nxt hbV
        have a2 := bBlk hbV l3 HR.out.2.1
        have hB := bNext HR.out.2.2.1 hbV
        have hs17 := HR.out.2.2.2.1.next hbV
        obtain ⟨-, -, -, -, hkd, hN, hfl⟩ := HR.out
        have l4 := (Array.getElem?_eq_some_iff.1 a2).1
        have e6 : IntKind.i64.wrap (3 + (N : Int)) = 3 + (N : Int) := wrap_small _ (by omega) (by omega)
        clear hV k1 k2 e1 e2 e3 e4 g2 g5 g6 g1 g4 b1 b2
        by_cases hroom : 3 + N ≤ m
        · have hbl : (obBody l).length = N := by rw [obBody_len (by rw [hN, hfl]; exact hroom), hN]
          have hiso : isO l = (obOk (X0 : Int) N && (frameB (X0 : Int) (obBody l) == l)) := by
            unfold isO
            rw [decide_eq_true ⟨fun h => HM.out.2 (by rw [← HL.out, h]; rfl), by rw [hN, hfl]; exact hroom⟩, Bool.true_and, hN, hkd]
          have hsb := sl_cut hs17 3 (q := N) (m := obBody l) (by unfold obBody; rw [hN]) hbl (by omega)
          have k0' := (hbV.cell (p := ⟨p, q, none⟩) hpz).trans k0
          have hr1 : ¬ (m : Int) < 3 + (N : Int) := by omega
          have n1 : (3 + (N : Int)).toNat = 3 + N := by omega
          have n2 : 3 + N - 3 = N := by omega
          have n3 : (3 : Int) + (N : Int) ≤ (c17 : Int) := by omega
          have n4 : (3 : Int) ≤ 3 + (N : Int) := by omega
          have n5 : ¬ c17 = 3 := by omega
          have n8 : 3 + N ≤ c17 := by omega
          have hpV : p < V.heap.size := by have := hbV.size; omega
          have H2 := Lib.hid (And.intro hbat (And.intro a2 (And.intro hB (And.intro hbl (And.intro hiso hkd)))))
          clear hbat a2 hB hbl hiso hkd hN hfl hs17 k0 hbV
          go_upto_region 11 with (fail)
          go_cut [6] from 42 to 52 (fun s6 wx => ∃ (g6 : Nat) (A51 : Option Addr) (c51 : Nat), s6 = .pointer (some ⟨g6, 0, none⟩) ∧ wx.heap[g6]? = some (.cells #[.int .i64 (X0 : Int), .slice A51 N c51, .int .i64 0] 33) ∧ Sl wx wx.heap.size 1 A51 N (bvs (obBody l)) ∧ N ≤ c51 ∧ c51 ≤ maxLen ∧ V.heap.size ≤ g6 ∧ Below V.heap.size V wx ∧ ∀ k, (Value.slice A51 N c51).ownBlock = some k → V.heap.size ≤ k)
          case first =>
            let S : World → Prop := fun w' => Below V.heap.size V w'
            have hS0 : S V.drew := (Below.refl _ _).drew
            have r0 := fun w' (h : S w') => ((show Below V.heap.size V w' from h).cell (p := ⟨p, q, none⟩) hpV).trans k0'
            have rs := fun w' (h : S w') => hsb.below (show Below V.heap.size V w' from h)
            clear k0' hsb
            refine wp_region_held (S := S) (by kernel_rfl) ?_
            change wpAnyH _ _ _ _ S _ _ _ V.drew
            refine wpAnyH_take (i := 0) (oi := ?oi_1) (v := ?v_1) ?ho_1 ?h1_1 ?h2_1 ?h3_1 ?hq_1 (Or.inl ⟨?hw_1, ?hy_1⟩) ?hs_1 ?rest_1; (case h2_1 => kernel_rfl); (case h3_1 => kernel_rfl); (case ho_1 => (simp only [List.getElem?_toArray, List.getElem?_cons_zero, List.getElem?_cons_succ]; rfl)); (case h1_1 => kernel_rfl); (case hq_1 => exact fun _ _ _ h => h); (case hw_1 => rfl); (case hy_1 => (intro w' hSw; (try simp only [S] at hSw); go_simp; (try with_reducible rfl))); (case hs_1 => assumption); (try simp only [Act.put, List.setIfInBounds_toArray, List.set_cons_zero, List.set_cons_succ])
            refine wpAnyH_take (i := 1) (oi := ?oi_2) (v := ?v_2) ?ho_2 ?h1_2 ?h2_2 ?h3_2 ?hq_2 (Or.inl ⟨?hw_2, ?hy_2⟩) ?hs_2 ?rest_2; (case h2_2 => kernel_rfl); (case h3_2 => kernel_rfl); (case ho_2 => (simp only [List.getElem?_toArray, List.getElem?_cons_zero, List.getElem?_cons_succ]; rfl)); (case h1_2 => kernel_rfl); (case hq_2 => exact fun _ _ _ h => h); (case hw_2 => rfl); (case hy_2 => (intro w' hSw; (try simp only [S] at hSw); go_simp; (try with_reducible rfl))); (case hs_2 => assumption); (try simp only [Act.put, List.setIfInBounds_toArray, List.set_cons_zero, List.set_cons_succ])
            refine wpAnyH_take (i := 2) (oi := ?oi_15) (v := ?v_15) ?ho_15 ?h1_15 ?h2_15 ?h3_15 ?hq_15 (Or.inl ⟨?hw_15, ?hy_15⟩) ?hs_15 ?rest_15; (case h2_15 => kernel_rfl); (case h3_15 => kernel_rfl); (case ho_15 => (simp only [List.getElem?_toArray, List.getElem?_cons_zero, List.getElem?_cons_succ]; rfl)); (case h1_15 => kernel_rfl); (case hq_15 => exact fun _ _ _ h => h); (case hw_15 => rfl); (case hy_15 => (intro w' hSw; have hq := r0 w' hSw; go_simp; (try with_reducible rfl))); (case hs_15 => assumption); (try simp only [Act.put, List.setIfInBounds_toArray, List.set_cons_zero, List.set_cons_succ])
            refine wpAnyH_take (i := 3) (oi := ?oi_3) (v := ?v_3) ?ho_3 ?h1_3 ?h2_3 ?h3_3 ?hq_3 (Or.inl ⟨?hw_3, ?hy_3⟩) ?hs_3 ?rest_3; (case h2_3 => kernel_rfl); (case h3_3 => kernel_rfl); (case ho_3 => (simp only [List.getElem?_toArray, List.getElem?_cons_zero, List.getElem?_cons_succ]; rfl)); (case h1_3 => kernel_rfl); (case hq_3 => exact fun _ _ _ h => h); (case hw_3 => rfl); (case hy_3 => (intro w' hSw; (try simp only [S] at hSw); go_simp; (try with_reducible rfl))); (case hs_3 => assumption); (try simp only [Act.put, List.setIfInBounds_toArray, List.set_cons_zero, List.set_cons_succ])
            refine wpAnyH_take (i := 5) (oi := ?oi_4) (v := ?v_4) ?ho_4 ?h1_4 ?h2_4 ?h3_4 ?hq_4 (Or.inl ⟨?hw_4, ?hy_4⟩) ?hs_4 ?rest_4; (case h2_4 => kernel_rfl); (case h3_4 => kernel_rfl); (case ho_4 => (simp only [List.getElem?_toArray, List.getElem?_cons_zero, List.getElem?_cons_succ]; rfl)); (case h1_4 => kernel_rfl); (case hq_4 => exact fun _ _ _ h => h); (case hw_4 => rfl); (case hy_4 => (intro w' hSw; (try simp only [S] at hSw); go_simp; (try with_reducible rfl))); (case hs_4 => assumption); (try simp only [Act.put, List.setIfInBounds_toArray, List.set_cons_zero, List.set_cons_succ])
            refine wpAnyH_take (i := 6) (oi := ?oi_5) (v := ?v_5) ?ho_5 ?h1_5 ?h2_5 ?h3_5 ?hq_5 (Or.inl ⟨?hw_5, ?hy_5⟩) ?hs_5 ?rest_5; (case h2_5 => kernel_rfl); (case h3_5 => kernel_rfl); (case ho_5 => (simp only [List.getElem?_toArray, List.getElem?_cons_zero, List.getElem?_cons_succ]; rfl)); (case h1_5 => kernel_rfl); (case hq_5 => exact fun _ _ _ h => h); (case hw_5 => rfl); (case hy_5 => (intro w' hSw; (try simp only [S] at hSw); go_simp; (try with_reducible rfl))); (case hs_5 => assumption); (try simp only [Act.put, List.setIfInBounds_toArray, List.set_cons_zero, List.set_cons_succ])
            refine wpAnyH_take (i := 7) (oi := ?oi_6) (v := ?v_6) ?ho_6 ?h1_6 ?h2_6 ?h3_6 ?hq_6 (Or.inl ⟨?hw_6, ?hy_6⟩) ?hs_6 ?rest_6; (case h2_6 => kernel_rfl); (case h3_6 => kernel_rfl); (case ho_6 => (simp only [List.getElem?_toArray, List.getElem?_cons_zero, List.getElem?_cons_succ]; rfl)); (case h1_6 => kernel_rfl); (case hq_6 => exact fun _ _ _ h => h); (case hw_6 => rfl); (case hy_6 => (intro w' hSw; (try simp only [S] at hSw); go_simp; (try with_reducible rfl))); (case hs_6 => assumption); (try simp only [Act.put, List.setIfInBounds_toArray, List.set_cons_zero, List.set_cons_succ])
            refine wpAnyH_take (i := 8) (oi := ?oi_7) (v := ?v_7) ?ho_7 ?h1_7 ?h2_7 ?h3_7 ?hq_7 (Or.inl ⟨?hw_7, ?hy_7⟩) ?hs_7 ?rest_7; (case h2_7 => kernel_rfl); (case h3_7 => kernel_rfl); (case ho_7 => (simp only [List.getElem?_toArray, List.getElem?_cons_zero, List.getElem?_cons_succ]; rfl)); (case h1_7 => kernel_rfl); (case hq_7 => exact fun _ _ _ h => h); (case hw_7 => rfl); (case hy_7 => (intro w' hSw; (try simp only [S] at hSw); go_simp; (try with_reducible rfl))); (case hs_7 => assumption); (try simp only [Act.put, List.setIfInBounds_toArray, List.set_cons_zero, List.set_cons_succ])
            have own0 : (V.drew.alloc (.cells #[] 5)).ownsRow V.heap.size 5 1 (.slice (some ⟨V.heap.size, 0, none⟩) 0 0) 0 [] := own_none' V.drew _ _ _ (Nat.le_refl _)
            have hS1 : S (V.drew.alloc (.cells #[] 5)) := hS0.alloc (Nat.le_refl _) _
            refine wpAnyH_ready (rs := [4, 11]) (by kernel_rfl) (by simp) (AllReadyH.cons (o := ?oo4_21) ?hoo4_21 (fun K hK => ?step4) (AllReadyH.cons (o := ?oo11_21) ?hoo11_21 (fun K hK => ?step11) AllReadyH.nil)); (case hoo4_21 => (simp only [List.getElem?_toArray, List.getElem?_cons_zero, List.getElem?_cons_succ]; rfl)); (case hoo11_21 => (simp only [List.getElem?_toArray, List.getElem?_cons_zero, List.getElem?_cons_succ]; rfl))
            case step4 =>
              go_simp
              refine hK.out _ _ hS1 (fun _ => ?_)
              clear hK K
              (try simp only [Act.put, List.setIfInBounds_toArray, List.set_cons_zero, List.set_cons_succ])
              refine wpAnyH_ready (rs := [9, 11]) (by kernel_rfl) (by simp) (AllReadyH.cons (o := ?oo9_22) ?hoo9_22 (fun K hK => ?stepX9) (AllReadyH.cons (o := ?oo11_22) ?hoo11_22 (fun K hK => ?stepX11) AllReadyH.nil)); (case hoo9_22 => (simp only [List.getElem?_toArray, List.getElem?_cons_zero, List.getElem?_cons_succ]; rfl)); (case hoo11_22 => (simp only [List.getElem?_toArray, List.getElem?_cons_zero, List.getElem?_cons_succ]; rfl))
              case stepX9 =>
                refine step_app _ rfl (.tmp 46) (.tmp 50) 22 rfl Try.underlying22 elemC rfl own0 rfl (rs _ hS1) (oneCell_bvs _) (by simp only [maxLen]; omega) (by omega) (by simp <;> omega) ?_
                intro A51 c51 w51 hown hg hb hat
                simp only [Nat.zero_add, List.nil_append] at hown ⊢
                have hS2 : S w51 := hS1.trans (hb.mono (Nat.le_refl _))
                refine hK.out _ _ hS2 (fun _ => ?_)
                clear hK K
                (try simp only [Act.put, List.setIfInBounds_toArray, List.set_cons_zero, List.set_cons_succ])
                refine wpAnyH_take (i := 10) (oi := ?oi_16) (v := ?v_16) ?ho_16 ?h1_16 ?h2_16 ?h3_16 ?hq_16 (Or.inl ⟨?hw_16, ?hy_16⟩) ?hs_16 ?rest_16; (case h2_16 => kernel_rfl); (case h3_16 => kernel_rfl); (case ho_16 => (simp only [List.getElem?_toArray, List.getElem?_cons_zero, List.getElem?_cons_succ]; rfl)); (case h1_16 => kernel_rfl); (case hq_16 => exact fun _ _ _ h => h); (case hw_16 => rfl); (case hy_16 => (intro w' hSw; refine exec_built (t := 33) (cs := #[.int .i64 (X0 : Int), .slice A51 N c51, .int .i64 0]) (parts := #[(0, .tmp 45), (1, .tmp 51)]) ?_ ?_ w'; exact rfl; simp only [List.map_toArray, List.map_cons, List.map_nil]; exact built_got (X0 : Int) A51 N c51)); (case hs_16 => assumption); (try simp only [Act.put, List.setIfInBounds_toArray, List.set_cons_zero, List.set_cons_succ])
                obtain ⟨Y, hY, y6, bY⟩ := newRow w51 z #[.int .i64 (X0 : Int), .slice A51 N c51, .int .i64 0] 33
                have hz51 := (show Below V.heap.size V w51 from hS2).size
                have hS3 : S (w51.alloc (.cells z 33)) := (show Below V.heap.size V w51 from hS2).alloc hz51 _
                have hS4 : S Y := (show Below V.heap.size V w51 from hS2).trans (bY.mono hz51)
                refine wpAnyH_ready (rs := [11]) (by kernel_rfl) (by simp) (AllReadyH.cons (o := ?oo11_23) ?hoo11_23 (fun K hK => ?steponly23) AllReadyH.nil); (case hoo11_23 => (simp only [List.getElem?_toArray, List.getElem?_cons_zero, List.getElem?_cons_succ]; rfl))
                refine step_new rfl hzz rfl ?_
                refine hK.out _ _ hS3 (fun _ => ?_)
                clear hK K
                (try simp only [Act.put, List.setIfInBounds_toArray, List.set_cons_zero, List.set_cons_succ])
                refine wpAnyH_ready (rs := [12]) (by kernel_rfl) (by simp) (AllReadyH.cons (o := ?oo12_24) ?hoo12_24 (fun K hK => ?steponly24) AllReadyH.nil); (case hoo12_24 => (simp only [List.getElem?_toArray, List.getElem?_cons_zero, List.getElem?_cons_succ]; rfl))
                refine step_row rfl 33 (.tmp 6) (.tmp 52) rfl w51.heap.size #[.int .i64 (X0 : Int), .slice A51 N c51, .int .i64 0] rfl rfl _ z (heap_alloc_new _ _) (gt_info _ _ _) (by rw [hzs]; rfl) (by simp [Value.oneCell']) ?_
                rw [hY]
                refine hK.out _ _ hS4 (fun _ => ?_)
                clear hK K
                (try simp only [Act.put, List.setIfInBounds_toArray, List.set_cons_zero, List.set_cons_succ])
                refine wpAnyH_done (by kernel_rfl) ?_ _
                have hownY := own_below hown bY
                obtain ⟨A8', c8', e, hnc8, hcm8⟩ := own_form hownY
                simp only [Value.slice.injEq] at e
                obtain ⟨rfl, -, rfl⟩ := e
                have HE := Lib.hid (And.intro y6 (And.intro (Sl.of_own hownY) (And.intro hnc8 (And.intro hcm8 (And.intro hz51 (And.intro (show Below V.heap.size V _ from hS4) (fun k hk => (show V.heap.size ≤ k from by have := own_ge hownY k hk; omega))))))))
                clear hS0 hS1 hS2 hS3 hS4 own0 hown hg hb hat hownY y6 bY hY rs r0 hz51
                go_wp2_with fail
                go_meet
                exact ⟨_, _, _, rfl, HE.out⟩

              case stepX11 =>
                refine step_new rfl hzz rfl ?_
                have hS2 : S ((V.drew.alloc (.cells #[] 5)).alloc (.cells z 33)) := (show Below V.heap.size V _ from hS1).alloc (by simp <;> omega) _
                have b6 : ((V.drew.alloc (.cells #[] 5)).alloc (.cells z 33)).heap[V.heap.size + 1]? = some (.cells z 33) := by have := heap_alloc_new (V.drew.alloc (.cells #[] 5)) (.cells z 33); simpa using this
                have hszA : (V.alloc (.cells #[] 5)).drew.heap.size = V.heap.size + 1 := by simp
                have hszB : (V.drew.alloc (.cells #[] 5)).heap.size = V.heap.size + 1 := by simp
                first | rw [hszA] | rw [hszB]
                refine hK.out _ _ hS2 (fun _ => ?_)
                clear hK K
                (try simp only [Act.put, List.setIfInBounds_toArray, List.set_cons_zero, List.set_cons_succ])
                refine wpAnyH_ready (rs := [9]) (by kernel_rfl) (by simp) (AllReadyH.cons (o := ?oo9_25) ?hoo9_25 (fun K hK => ?steponly25) AllReadyH.nil); (case hoo9_25 => (simp only [List.getElem?_toArray, List.getElem?_cons_zero, List.getElem?_cons_succ]; rfl))
                refine step_app _ rfl (.tmp 46) (.tmp 50) 22 rfl Try.underlying22 elemC rfl (own0.alloc _) rfl (rs _ hS2) (oneCell_bvs _) (by simp only [maxLen]; omega) (by omega) (by simp <;> omega) ?_
                intro A51 c51 w51 hown hg hb hat
                simp only [Nat.zero_add, List.nil_append] at hown ⊢
                have hS3 : S w51 := (show Below V.heap.size V _ from hS2).trans hb
                have hg' : World.grownBy ((V.drew.alloc (.cells #[] 5)).alloc (.cells z 33)) w51 (some V.heap.size) := hg
                have b6' : w51.heap[V.heap.size + 1]? = some (.cells z 33) := (hg'.block _ (by simp) (fun e => by injection e with e; omega)).trans b6
                have hat' : (Value.slice A51 N c51).ownBlock = some V.heap.size ∨ (Value.slice A51 N c51).ownBlock = some ((V.drew.alloc (.cells #[] 5)).alloc (.cells z 33)).heap.size := by rw [Nat.zero_add] at hat; exact hat
                have hS4 : S (w51.setRow (V.heap.size + 1) #[.int .i64 (X0 : Int), .slice A51 N c51, .int .i64 0]) := bSetRow hS3 (by omega) _
                refine hK.out _ _ hS3 (fun _ => ?_)
                clear hK K
                (try simp only [Act.put, List.setIfInBounds_toArray, List.set_cons_zero, List.set_cons_succ])
                refine wpAnyH_take (i := 10) (oi := ?oi_17) (v := ?v_17) ?ho_17 ?h1_17 ?h2_17 ?h3_17 ?hq_17 (Or.inl ⟨?hw_17, ?hy_17⟩) ?hs_17 ?rest_17; (case h2_17 => kernel_rfl); (case h3_17 => kernel_rfl); (case ho_17 => (simp only [List.getElem?_toArray, List.getElem?_cons_zero, List.getElem?_cons_succ]; rfl)); (case h1_17 => kernel_rfl); (case hq_17 => exact fun _ _ _ h => h); (case hw_17 => rfl); (case hy_17 => (intro w' hSw; refine exec_built (t := 33) (cs := #[.int .i64 (X0 : Int), .slice A51 N c51, .int .i64 0]) (parts := #[(0, .tmp 45), (1, .tmp 51)]) ?_ ?_ w'; exact rfl; simp only [List.map_toArray, List.map_cons, List.map_nil]; exact built_got (X0 : Int) A51 N c51)); (case hs_17 => assumption); (try simp only [Act.put, List.setIfInBounds_toArray, List.set_cons_zero, List.set_cons_succ])
                refine wpAnyH_ready (rs := [12]) (by kernel_rfl) (by simp) (AllReadyH.cons (o := ?oo12_26) ?hoo12_26 (fun K hK => ?steponly26) AllReadyH.nil); (case hoo12_26 => (simp only [List.getElem?_toArray, List.getElem?_cons_zero, List.getElem?_cons_succ]; rfl))
                refine step_row rfl 33 (.tmp 6) (.tmp 52) rfl (V.heap.size + 1) #[.int .i64 (X0 : Int), .slice A51 N c51, .int .i64 0] rfl rfl _ z b6' (gt_info _ _ _) (by rw [hzs]; rfl) (by simp [Value.oneCell']) ?_
                refine hK.out _ _ hS4 (fun _ => ?_)
                clear hK K
                (try simp only [Act.put, List.setIfInBounds_toArray, List.set_cons_zero, List.set_cons_succ])
                refine wpAnyH_done (by kernel_rfl) ?_ _
                have hownY := own_setRow (g := V.heap.size + 1) hown (fun k hk e => by
                  rcases hat' with h | h
                  · rw [h] at hk; injection hk with hk; omega
                  · rw [h] at hk; injection hk with hk; simp only [World.size_alloc] at hk; have : V.drew.heap.size = V.heap.size := rfl; omega) #[.int .i64 (X0 : Int), .slice A51 N c51, .int .i64 0]
                have y6 : (w51.setRow (V.heap.size + 1) #[.int .i64 (X0 : Int), .slice A51 N c51, .int .i64 0]).heap[V.heap.size + 1]? = some (.cells #[.int .i64 (X0 : Int), .slice A51 N c51, .int .i64 0] 33) := setRow_heap _ _ _ _ _ _ b6'
                obtain ⟨A8', c8', e, hnc8, hcm8⟩ := own_form hownY
                simp only [Value.slice.injEq] at e
                obtain ⟨rfl, -, rfl⟩ := e
                have HE := Lib.hid (And.intro y6 (And.intro (Sl.of_own hownY) (And.intro hnc8 (And.intro hcm8 (And.intro (Nat.le_succ V.heap.size) (And.intro (show Below V.heap.size V _ from hS4) (fun k hk => (show V.heap.size ≤ k from by have := own_ge hownY k hk; omega))))))))
                clear hS0 hS1 hS2 hS3 hS4 own0 hown hg hb hat hownY y6 b6 b6' rs r0
                go_wp2_with fail
                go_meet
                exact ⟨_, _, _, rfl, HE.out⟩
            case step11 =>
              refine step_new rfl hzz rfl ?_
              have hS2 : S (V.drew.alloc (.cells z 33)) := hS0.alloc (Nat.le_refl _) _
              have b6 : (V.drew.alloc (.cells z 33)).heap[V.heap.size]? = some (.cells z 33) := heap_alloc_new V.drew _
              refine hK.out _ _ hS2 (fun _ => ?_)
              clear hK K
              (try simp only [Act.put, List.setIfInBounds_toArray, List.set_cons_zero, List.set_cons_succ])
              have own1 := own_none' (V.drew.alloc (.cells z 33)) (V.heap.size + 1) 5 1 (by simp)
              have hS3 : S ((V.drew.alloc (.cells z 33)).alloc (.cells #[] 5)) := (show Below V.heap.size V _ from hS2).alloc (by simp <;> omega) _
              have b7 : ((V.drew.alloc (.cells z 33)).alloc (.cells #[] 5)).heap[V.heap.size]? = some (.cells z 33) := (Below.heap_alloc _ _ _ (by simp)).trans b6
              refine wpAnyH_ready (rs := [4]) (by kernel_rfl) (by simp) (AllReadyH.cons (o := ?oo4_27) ?hoo4_27 (fun K hK => ?steponly27) AllReadyH.nil); (case hoo4_27 => (simp only [List.getElem?_toArray, List.getElem?_cons_zero, List.getElem?_cons_succ]; rfl))
              go_simp
              refine hK.out _ _ hS3 (fun _ => ?_)
              clear hK K
              (try simp only [Act.put, List.setIfInBounds_toArray, List.set_cons_zero, List.set_cons_succ])
              rw [World.size_alloc] at own1
              refine wpAnyH_ready (rs := [9]) (by kernel_rfl) (by simp) (AllReadyH.cons (o := ?oo9_28) ?hoo9_28 (fun K hK => ?steponly28) AllReadyH.nil); (case hoo9_28 => (simp only [List.getElem?_toArray, List.getElem?_cons_zero, List.getElem?_cons_succ]; rfl))
              refine step_app _ rfl (.tmp 46) (.tmp 50) 22 rfl Try.underlying22 elemC rfl own1 rfl (rs _ hS3) (oneCell_bvs _) (by simp only [maxLen]; omega) (by omega) (by simp <;> omega) ?_
              intro A51 c51 w51 hown hg hb hat
              simp only [Nat.zero_add, List.nil_append] at hown ⊢
              have hS4 : S w51 := (show Below V.heap.size V _ from hS3).trans (hb.mono (by omega))
              have b8 : w51.heap[V.heap.size]? = some (.cells z 33) := (hb.block _ (by omega)).trans b7
              have hS5 : S (w51.setRow V.heap.size #[.int .i64 (X0 : Int), .slice A51 N c51, .int .i64 0]) := bSetRow hS4 (Nat.le_refl _) _
              refine hK.out _ _ hS4 (fun _ => ?_)
              clear hK K
              (try simp only [Act.put, List.setIfInBounds_toArray, List.set_cons_zero, List.set_cons_succ])
              refine wpAnyH_take (i := 10) (oi := ?oi_18) (v := ?v_18) ?ho_18 ?h1_18 ?h2_18 ?h3_18 ?hq_18 (Or.inl ⟨?hw_18, ?hy_18⟩) ?hs_18 ?rest_18; (case h2_18 => kernel_rfl); (case h3_18 => kernel_rfl); (case ho_18 => (simp only [List.getElem?_toArray, List.getElem?_cons_zero, List.getElem?_cons_succ]; rfl)); (case h1_18 => kernel_rfl); (case hq_18 => exact fun _ _ _ h => h); (case hw_18 => rfl); (case hy_18 => (intro w' hSw; refine exec_built (t := 33) (cs := #[.int .i64 (X0 : Int), .slice A51 N c51, .int .i64 0]) (parts := #[(0, .tmp 45), (1, .tmp 51)]) ?_ ?_ w'; exact rfl; simp only [List.map_toArray, List.map_cons, List.map_nil]; exact built_got (X0 : Int) A51 N c51)); (case hs_18 => assumption); (try simp only [Act.put, List.setIfInBounds_toArray, List.set_cons_zero, List.set_cons_succ])
              refine wpAnyH_ready (rs := [12]) (by kernel_rfl) (by simp) (AllReadyH.cons (o := ?oo12_29) ?hoo12_29 (fun K hK => ?steponly29) AllReadyH.nil); (case hoo12_29 => (simp only [List.getElem?_toArray, List.getElem?_cons_zero, List.getElem?_cons_succ]; rfl))
              refine step_row rfl 33 (.tmp 6) (.tmp 52) rfl V.heap.size #[.int .i64 (X0 : Int), .slice A51 N c51, .int .i64 0] rfl rfl _ z b8 (gt_info _ _ _) (by rw [hzs]; rfl) (by simp [Value.oneCell']) ?_
              refine hK.out _ _ hS5 (fun _ => ?_)
              clear hK K
              (try simp only [Act.put, List.setIfInBounds_toArray, List.set_cons_zero, List.set_cons_succ])
              refine wpAnyH_done (by kernel_rfl) ?_ _
              have hownY := own_setRow (g := V.heap.size) hown (fun k hk e => by have := own_ge hown k hk; omega) #[.int .i64 (X0 : Int), .slice A51 N c51, .int .i64 0]
              have y6 : (w51.setRow V.heap.size #[.int .i64 (X0 : Int), .slice A51 N c51, .int .i64 0]).heap[V.heap.size]? = some (.cells #[.int .i64 (X0 : Int), .slice A51 N c51, .int .i64 0] 33) := setRow_heap _ _ _ _ _ _ b8
              obtain ⟨A8', c8', e, hnc8, hcm8⟩ := own_form hownY
              simp only [Value.slice.injEq] at e
              obtain ⟨rfl, -, rfl⟩ := e
              have HE := Lib.hid (And.intro y6 (And.intro (Sl.of_own hownY) (And.intro hnc8 (And.intro hcm8 (And.intro (Nat.le_refl V.heap.size) (And.intro (show Below V.heap.size V _ from hS5) (fun k hk => (show V.heap.size ≤ k from by have := own_ge hownY k hk; omega))))))))
              clear hS0 hS1 hS2 hS3 hS4 hS5 own0 own1 hown hg hb hat hownY y6 b6 b7 b8 rs r0
              go_wp2_with fail
              go_meet
              exact ⟨V.heap.size, _, _, rfl, HE.out⟩
          case rest =>
            obtain ⟨g6, A51, c51, rfl, y6, hs6, hnc8, hcm8, hg6, hbY, hAk⟩ := hcut
            have HAk := Lib.hid (And.intro hAk l4)
            clear hAk
            have hbat := H2.out.1.nxt hbY
            have a2 := bBlk hbY l4 H2.out.2.1
            have l5 := (Array.getElem?_eq_some_iff.1 a2).1
            have hB := bNext H2.out.2.2.1 hbY
            have l6 := (Array.getElem?_eq_some_iff.1 y6).1
            have c60 : wc.cell? ⟨g6, 0, none⟩ = some (.int .i64 (X0 : Int)) := blk_cell y6 rfl
            have c61 : wc.cell? ⟨g6, 1, none⟩ = some (.slice A51 N c51) := blk_cell y6 rfl
            have hlt6 : w.heap.size < g6 := by omega
            have hfr := rframe_any (kind := (X0 : Int)) (c := c51) H2.out.2.2.2.1 wc hs6 (Nat.le_refl _)
            have hFa := frame_all (X0 : Int) (obBody l)
            have hF8 := frame_len8 (X0 : Int) (obBody l)
            obtain ⟨hbl, hiso, hkd⟩ := H2.out.2.2.2
            obtain ⟨F, hF⟩ : ∃ q, frameB (X0 : Int) (obBody l) = q := ⟨_, rfl⟩
            rw [hF] at hfr hFa hF8 hiso
            have H3 := Lib.hid (And.intro hbat (And.intro a2 (And.intro hB (And.intro y6 (And.intro hs6 (And.intro hbl (And.intro hiso (And.intro hkd (And.intro hFa (And.intro hF8 (And.intro hnc8 hcm8)))))))))))
            clear hbat a2 hB y6 hs6 hbl hiso hkd hFa hF8 hF hnc8 hcm8 hbY H2
            go_wp2_with fail
            refine Calls.mono hfr ?_
            rintro e Z ⟨A7, n7, c7, rfl, hn7, hnc7, hcm7, hs7, hbZ⟩
            clear hfr c60 c61
            obtain ⟨hbat0, a20, hB0, y60, hown0, hbl, hiso, hkd, hFa, hF8, hnc8, hcm8⟩ := H3.out
            have hbat := hbat0.nxt hbZ
            have a2 := bBlk hbZ l5 a20
            have y6 := bBlk hbZ l6 y60
            have hB := bNext hB0 hbZ
            have hs8 := hown0.next hbZ
            have l7 := (Array.getElem?_eq_some_iff.1 a2).1
            clear hbat0 a20 hB0 y60 hown0 H3 hbZ l2 l3 l4 l5 l6
            cases ho : obOk (X0 : Int) N
            · have eE : frameE (X0 : Int) N = 1 := by unfold frameE; rw [ho]; rfl
              rw [eE]
              have hno : isO l = false := by rw [hiso, ho]; rfl
              have HN := Lib.hid (And.intro hno hB)
              clear hno ho hB hs8 y6 hbat hs7 hbl hiso hkd hFa hF8 hn7
              go_wp2_with (first
                | (refine wpList_built (o := ⟨some 70, _, _, _, _, _⟩) rfl 33 #[(2, .const (.int .i64 11))] rfl (cs := #[.int .i64 0, .slice none 0 0, .int .i64 11]) (by simp only [List.map_toArray, List.map_cons, List.map_nil]; exact built_got11) ?_)
                | (refine wpList_store_row rfl 33 (.tmp 2) (.tmp 70) rfl _ #[.int .i64 0, .slice none 0 0, .int .i64 11] rfl rfl _ z a2 (gt_info _ _ _) (by rw [hzs]; rfl) (by simp [Value.oneCell']) ?_)
                | fail)
              generalize hX : World.setRow _ _ _ = X9
              have b9 : X9.heap[w.heap.size]? = some (.cells #[.int .i64 0, .slice none 0 0, .int .i64 11] 33) := by rw [← hX]; exact setRow_heap _ _ _ _ _ _ a2
              have hBX : Below w.heap.size w X9 := by rw [← hX]; exact bSetRow HN.out.2 (Nat.le_refl _) _
              clear hX
              have hld := run_loadVar_row (P := Try.prog) X9 _ _ 33 _ _ _ b9 Try.underlying33 rfl (gt_info _ _ _)
              refine bodyPost_ret (by simp [results, Try.results17, Act.put, asAddr, Result.andThen, hld]; try rfl) rfl ?_
              exact RBodP.no HN.out.1 hBX
            · have eE : frameE (X0 : Int) N = 0 := by unfold frameE; rw [ho]; rfl
              rw [eE]
              rw [ho, Bool.true_and] at hiso
              by_cases hnj : n7 = j
              · subst hnj
                have hbF : BAt Z Z.heap.size A7 n7 c7 F := ⟨hFa, hn7.symm, hs7, hnc7⟩
                have H4 := Lib.hid (And.intro hbat (And.intro a2 (And.intro hB (And.intro y6 (And.intro hs8 (And.intro hbl (And.intro hiso (And.intro hkd (And.intro hbF (And.intro hnc8 hcm8))))))))))
                have HN7 := Lib.hid hn7
                clear hbat a2 hB y6 hs8 hbl hiso hkd hbF hFa hnc8 hcm8 hs7 hn7 ho eE
                go_wp2_with fail
                go_loopw [9] (fun i wr => ∃ k : Nat, k ≤ n7 ∧ i = .int .i64 k ∧ Below Z.heap.size Z wr ∧ (∀ i : Nat, i < k → F[i]? = l[i]?)) (fun i _ => n7 - (intOf i).toNat)
                case atStart => exact ⟨0, by omega, rfl, Below.refl _ _, fun j hj => absurd hj (by omega)⟩
                case round =>
                  obtain ⟨k, hk, rfl, hBr, hne⟩ := hrel
                  have a2 := bBlk hBr l7 H4.out.2.1
                  have hB := bNext H4.out.2.2.1 hBr
                  have l8 := (Array.getElem?_eq_some_iff.1 a2).1
                  by_cases hlt : k < n7
                  · obtain ⟨x, hx⟩ : ∃ x, F[k]? = some x := ⟨_, List.getElem?_eq_getElem (by rw [← HN7.out]; exact hlt)⟩
                    obtain ⟨y, hy⟩ : ∃ y, l[k]? = some y := ⟨_, List.getElem?_eq_getElem (by rw [HL.out]; exact hlt)⟩
                    obtain ⟨hbat, -, -, -, -, -, -, -, hbF, -, -⟩ := H4.out
                    have hxo := hbF.all x (List.mem_of_getElem? hx)
                    have hyo := hbat.all y (List.mem_of_getElem? hy)
                    obtain ⟨b, o, rfl, hbB, hxr⟩ := hbF.entry hx
                    obtain ⟨b', o', rfl, hbB', hyr⟩ := hbat.entry hy
                    have hi1 : (k : Int) < (n7 : Int) := by omega
                    have hxi := bk_linfo hxo
                    have hyi := bk_linfo hyo
                    have hq := fun w => blk_q hxo hyo w
                    obtain ⟨t, hqq⟩ : ∃ q, (x == y) = q := ⟨_, rfl⟩
                    rw [hqq] at hq
                    let S : World → Prop := fun w' => Below wr.heap.size wr w'
                    have hzr := hBr.size
                    have r1 : ∀ w', S w' → w'.rangeAt b (o + k * 128) (bvs x) := fun w' h => bRange (show Below wr.heap.size wr w' from h) (by omega) (bRange hBr (by omega) hxr)
                    have r2 : ∀ w', S w' → w'.rangeAt b' (o' + k * 128) (bvs y) := fun w' h => bRange (show Below wr.heap.size wr w' from h) (by omega) (bRange hBr (by omega) hyr)
                    have hS0 : S wr.drew := (Below.refl _ _).drew
                    have HX := Lib.hid (And.intro hx (And.intro hy (And.intro hne (And.intro hqq (And.intro hBr (And.intro a2 hB))))))
                    clear hx hy hne hqq hxr hyr hBr a2 hB hbat hbF
                    go_upto_region 18 with (fail)
                    refine wp_region_held (S := S) (by kernel_rfl) ?_
                    change wpAnyH _ _ _ _ S _ _ _ wr.drew
                    refine wpAnyH_take (i := 0) (oi := ?oi_8) (v := ?v_8) ?ho_8 ?h1_8 ?h2_8 ?h3_8 ?hq_8 (Or.inl ⟨?hw_8, ?hy_8⟩) ?hs_8 ?rest_8; (case h2_8 => kernel_rfl); (case h3_8 => kernel_rfl); (case ho_8 => (simp only [List.getElem?_toArray, List.getElem?_cons_zero, List.getElem?_cons_succ]; rfl)); (case h1_8 => kernel_rfl); (case hq_8 => exact fun _ _ _ h => h); (case hw_8 => rfl); (case hy_8 => (intro w' hSw; (try simp only [S] at hSw); go_simp; (try with_reducible rfl))); (case hs_8 => assumption); (try simp only [Act.put, List.setIfInBounds_toArray, List.set_cons_zero, List.set_cons_succ])
                    refine wpAnyH_take (i := 1) (oi := ?oi_9) (v := ?v_9) ?ho_9 ?h1_9 ?h2_9 ?h3_9 ?hq_9 (Or.inl ⟨?hw_9, ?hy_9⟩) ?hs_9 ?rest_9; (case h2_9 => kernel_rfl); (case h3_9 => kernel_rfl); (case ho_9 => (simp only [List.getElem?_toArray, List.getElem?_cons_zero, List.getElem?_cons_succ]; rfl)); (case h1_9 => kernel_rfl); (case hq_9 => exact fun _ _ _ h => h); (case hw_9 => rfl); (case hy_9 => (intro w' hSw; (try simp only [S] at hSw); go_simp; (try with_reducible rfl))); (case hs_9 => assumption); (try simp only [Act.put, List.setIfInBounds_toArray, List.set_cons_zero, List.set_cons_succ])
                    refine wpAnyH_take (i := 2) (oi := ?oi_10) (v := ?v_10) ?ho_10 ?h1_10 ?h2_10 ?h3_10 ?hq_10 (Or.inl ⟨?hw_10, ?hy_10⟩) ?hs_10 ?rest_10; (case h2_10 => kernel_rfl); (case h3_10 => kernel_rfl); (case ho_10 => (simp only [List.getElem?_toArray, List.getElem?_cons_zero, List.getElem?_cons_succ]; rfl)); (case h1_10 => kernel_rfl); (case hq_10 => exact fun _ _ _ h => h); (case hw_10 => rfl); (case hy_10 => (intro w' hSw; (try simp only [S] at hSw); go_simp; (try with_reducible rfl))); (case hs_10 => assumption); (try simp only [Act.put, List.setIfInBounds_toArray, List.set_cons_zero, List.set_cons_succ])
                    refine wpAnyH_take (i := 3) (oi := ?oi_19) (v := ?v_19) ?ho_19 ?h1_19 ?h2_19 ?h3_19 ?hq_19 (Or.inl ⟨?hw_19, ?hy_19⟩) ?hs_19 ?rest_19; (case h2_19 => kernel_rfl); (case h3_19 => kernel_rfl); (case ho_19 => (simp only [List.getElem?_toArray, List.getElem?_cons_zero, List.getElem?_cons_succ]; rfl)); (case h1_19 => kernel_rfl); (case hq_19 => exact fun _ _ _ h => h); (case hw_19 => rfl); (case hy_19 => (intro w' hSw; refine exec_load_row (x := .tmp 79) ?_ ?_ (r1 w' hSw) Try.underlying40 ?_ hxi <;> rfl)); (case hs_19 => assumption); (try simp only [Act.put, List.setIfInBounds_toArray, List.set_cons_zero, List.set_cons_succ])
                    refine wpAnyH_take (i := 4) (oi := ?oi_11) (v := ?v_11) ?ho_11 ?h1_11 ?h2_11 ?h3_11 ?hq_11 (Or.inl ⟨?hw_11, ?hy_11⟩) ?hs_11 ?rest_11; (case h2_11 => kernel_rfl); (case h3_11 => kernel_rfl); (case ho_11 => (simp only [List.getElem?_toArray, List.getElem?_cons_zero, List.getElem?_cons_succ]; rfl)); (case h1_11 => kernel_rfl); (case hq_11 => exact fun _ _ _ h => h); (case hw_11 => rfl); (case hy_11 => (intro w' hSw; (try simp only [S] at hSw); go_simp; (try with_reducible rfl))); (case hs_11 => assumption); (try simp only [Act.put, List.setIfInBounds_toArray, List.set_cons_zero, List.set_cons_succ])
                    refine wpAnyH_take (i := 5) (oi := ?oi_12) (v := ?v_12) ?ho_12 ?h1_12 ?h2_12 ?h3_12 ?hq_12 (Or.inl ⟨?hw_12, ?hy_12⟩) ?hs_12 ?rest_12; (case h2_12 => kernel_rfl); (case h3_12 => kernel_rfl); (case ho_12 => (simp only [List.getElem?_toArray, List.getElem?_cons_zero, List.getElem?_cons_succ]; rfl)); (case h1_12 => kernel_rfl); (case hq_12 => exact fun _ _ _ h => h); (case hw_12 => rfl); (case hy_12 => (intro w' hSw; (try simp only [S] at hSw); go_simp; (try with_reducible rfl))); (case hs_12 => assumption); (try simp only [Act.put, List.setIfInBounds_toArray, List.set_cons_zero, List.set_cons_succ])
                    refine wpAnyH_take (i := 6) (oi := ?oi_13) (v := ?v_13) ?ho_13 ?h1_13 ?h2_13 ?h3_13 ?hq_13 (Or.inl ⟨?hw_13, ?hy_13⟩) ?hs_13 ?rest_13; (case h2_13 => kernel_rfl); (case h3_13 => kernel_rfl); (case ho_13 => (simp only [List.getElem?_toArray, List.getElem?_cons_zero, List.getElem?_cons_succ]; rfl)); (case h1_13 => kernel_rfl); (case hq_13 => exact fun _ _ _ h => h); (case hw_13 => rfl); (case hy_13 => (intro w' hSw; (try simp only [S] at hSw); go_simp; (try with_reducible rfl))); (case hs_13 => assumption); (try simp only [Act.put, List.setIfInBounds_toArray, List.set_cons_zero, List.set_cons_succ])
                    refine wpAnyH_take (i := 7) (oi := ?oi_20) (v := ?v_20) ?ho_20 ?h1_20 ?h2_20 ?h3_20 ?hq_20 (Or.inl ⟨?hw_20, ?hy_20⟩) ?hs_20 ?rest_20; (case h2_20 => kernel_rfl); (case h3_20 => kernel_rfl); (case ho_20 => (simp only [List.getElem?_toArray, List.getElem?_cons_zero, List.getElem?_cons_succ]; rfl)); (case h1_20 => kernel_rfl); (case hq_20 => exact fun _ _ _ h => h); (case hw_20 => rfl); (case hy_20 => (intro w' hSw; refine exec_load_row (x := .tmp 83) ?_ ?_ (r2 w' hSw) Try.underlying40 ?_ hyi <;> rfl)); (case hs_20 => assumption); (try simp only [Act.put, List.setIfInBounds_toArray, List.set_cons_zero, List.set_cons_succ])
                    refine wpAnyH_take (i := 8) (oi := ?oi_14) (v := ?v_14) ?ho_14 ?h1_14 ?h2_14 ?h3_14 ?hq_14 (Or.inl ⟨?hw_14, ?hy_14⟩) ?hs_14 ?rest_14; (case h2_14 => kernel_rfl); (case h3_14 => kernel_rfl); (case ho_14 => (simp only [List.getElem?_toArray, List.getElem?_cons_zero, List.getElem?_cons_succ]; rfl)); (case h1_14 => kernel_rfl); (case hq_14 => exact fun _ _ _ h => h); (case hw_14 => rfl); (case hy_14 => (intro w' hSw; (try simp only [S] at hSw); go_simp; (try with_reducible rfl))); (case hs_14 => assumption); (try simp only [Act.put, List.setIfInBounds_toArray, List.set_cons_zero, List.set_cons_succ])
                    refine wpAnyH_done (by kernel_rfl) ?_ _
                    clear hS0 r1 r2
                    obtain ⟨hx, hy, hne, hqq, hBr, a2, hB⟩ := HX.out
                    cases t
                    · have hno : isO l = false := by
                        rw [H4.out.2.2.2.2.2.2.1]
                        cases hfl : (F == l)
                        · rfl
                        · rw [beq_iff_eq] at hfl
                          rw [hfl, hy] at hx
                          injection hx with e2
                          rw [e2, beq_self_eq_true] at hqq
                          cases hqq
                      have a2' : wr.drew.heap[w.heap.size]? = some (.cells z 33) := a2
                      have HN := Lib.hid (And.intro hno hB.drew)
                      clear hno hx hy hne hqq hBr a2 hB HX H4
                      go_wp2_with (first
                        | (refine wpList_built (o := ⟨some 86, _, _, _, _, _⟩) rfl 33 #[(2, .const (.int .i64 11))] rfl (cs := #[.int .i64 0, .slice none 0 0, .int .i64 11]) (by simp only [List.map_toArray, List.map_cons, List.map_nil]; exact built_got11) ?_)
                        | (refine wpList_store_row rfl 33 (.tmp 2) (.tmp 86) rfl _ #[.int .i64 0, .slice none 0 0, .int .i64 11] rfl rfl _ z a2' (gt_info _ _ _) (by rw [hzs]; rfl) (by simp [Value.oneCell']) ?_)
                        | fail)
                      generalize hX : World.setRow _ _ _ = X9
                      have b9 : X9.heap[w.heap.size]? = some (.cells #[.int .i64 0, .slice none 0 0, .int .i64 11] 33) := by rw [← hX]; exact setRow_heap _ _ _ _ _ _ a2'
                      have hBX : Below w.heap.size w X9 := by rw [← hX]; exact bSetRow HN.out.2 (Nat.le_refl _) _
                      clear hX
                      have hld := run_loadVar_row (P := Try.prog) X9 _ _ 33 _ _ _ b9 Try.underlying33 rfl (gt_info _ _ _)
                      refine bodyPost_ret (by simp [results, Try.results17, Act.put, asAddr, Result.andThen, hld]; try rfl) rfl ?_
                      exact RBodP.no HN.out.1 hBX
                    · have exy := beq_iff_eq.1 hqq
                      have HR := Lib.hid (And.intro hx (And.intro hy (And.intro hne (And.intro exy hBr))))
                      clear hx hy hne hqq hBr HX exy a2 hB
                      go_wp2_with fail
                      go_roundw
                      case rel => exact ⟨k + 1, by omega, by go_num, HR.out.2.2.2.2.drew, fun j hj => by
                        rcases Nat.lt_or_ge j k with h | h
                        · exact HR.out.2.2.1 j h
                        · obtain rfl : j = k := by omega
                          rw [HR.out.1, HR.out.2.1, HR.out.2.2.2.1]⟩
                      case measure => simp [intOf]; omega
                  · obtain rfl : k = n7 := by omega
                    have hi1 : ¬ (k : Int) < (k : Int) := by omega
                    have hyes : isO l = true := by
                      rw [H4.out.2.2.2.2.2.2.1, beq_iff_eq]
                      refine List.ext_getElem? fun j => ?_
                      rcases Nat.lt_or_ge j k with h | h
                      · exact hne j h
                      · rw [List.getElem?_eq_none (by rw [← HN7.out]; exact h), List.getElem?_eq_none (by rw [HL.out]; exact h)]
                    have y6 : wr.heap[g6]? = some (.cells #[.int .i64 (X0 : Int), .slice A51 N c51, .int .i64 0] 33) := bBlk hBr (Array.getElem?_eq_some_iff.1 H4.out.2.2.2.1).1 H4.out.2.2.2.1
                    have hs8 := H4.out.2.2.2.2.1.next hBr
                    have HR := Lib.hid (And.intro hyes (And.intro hs8 hB))
                    clear hyes hs8 hne hBr hB
                    go_wp2_with (first
                      | (refine wpList_load_row rfl 33 (.tmp 6) rfl _ rfl _ #[.int .i64 (X0 : Int), .slice A51 N c51, .int .i64 0] (0, 0) _ y6 Try.underlying33 rfl (gt_info _ _ _) ?_)
                      | (refine wpList_store_row rfl 33 (.tmp 2) (.tmp 87) rfl _ #[.int .i64 (X0 : Int), .slice A51 N c51, .int .i64 0] rfl rfl _ z a2 (gt_info _ _ _) (by rw [hzs]; rfl) (by simp [Value.oneCell']) ?_)
                      | fail)
                    obtain ⟨X9, hX⟩ : ∃ q, wr.setRow w.heap.size #[.int .i64 (X0 : Int), .slice A51 N c51, .int .i64 0] = q := ⟨_, rfl⟩
                    rw [hX]
                    have b9 : X9.heap[w.heap.size]? = some (.cells #[.int .i64 (X0 : Int), .slice A51 N c51, .int .i64 0] 33) := by rw [← hX]; exact setRow_heap _ _ _ _ _ _ a2
                    have hBX : Below w.heap.size w X9 := by rw [← hX]; exact bSetRow HR.out.2.2 (Nat.le_refl _) _
                    have hld := run_loadVar_row (P := Try.prog) X9 _ _ 33 _ _ _ b9 Try.underlying33 rfl (gt_info _ _ _)
                    refine bodyPost_ret (by simp [results, Try.results17, Act.put, asAddr, Result.andThen, hld]; try rfl) rfl ?_
                    have hbX2 : Below wr.heap.size wr X9 → True := fun _ => trivial
                    obtain ⟨hyes, hs8, hB⟩ := HR.out
                    have q1 : kindOf l = (X0 : Int) := by unfold kindOf; rw [hyes, if_pos rfl, H4.out.2.2.2.2.2.2.2.1]
                    have q2 : bodyOf l = obBody l := by unfold bodyOf; rw [hyes, if_pos rfl]
                    have q3 : bodyE l = 0 := by unfold bodyE; rw [hyes, if_pos rfl]
                    refine ⟨A51, N, c51, by rw [q1, q3]; rfl, by rw [q2, H4.out.2.2.2.2.2.1], H4.out.2.2.2.2.2.2.2.2.2.1, H4.out.2.2.2.2.2.2.2.2.2.2, ?_, hBX⟩
                    rw [q2]
                    refine ⟨hs8.len, fun h0 => ?_⟩
                    obtain ⟨b, o, e, hb, hr⟩ := hs8.at_ h0
                    have hbk := HAk.out.1 b (by rw [e]; rfl)
                    have hl4 := HAk.out.2
                    exact ⟨b, o, e, by rw [← hX, setRow_size]; exact hb, fun j v hj => by rw [← hX]; exact (World.cell?_of_block (a := ⟨b, o + j, none⟩) (setRow_other wr w.heap.size b _ (by omega))).trans (hr j v hj)⟩
              · have hno : isO l = false := by
                  rw [hiso]
                  cases hfl : (F == l)
                  · rfl
                  · rw [beq_iff_eq] at hfl
                    exact absurd (by rw [hn7, hfl]; exact HL.out) hnj
                have hnj' : ((n7 : Int) == (j : Int)) = false := by simp; omega
                have HN := Lib.hid (And.intro hno hB)
                clear hno ho hB hs8 y6 hbat hs7 hbl hiso hkd hFa hF8 hn7
                go_wp2_with (first
                  | (refine wpList_built (o := ⟨some 70, _, _, _, _, _⟩) rfl 33 #[(2, .const (.int .i64 11))] rfl (cs := #[.int .i64 0, .slice none 0 0, .int .i64 11]) (by simp only [List.map_toArray, List.map_cons, List.map_nil]; exact built_got11) ?_)
                  | (refine wpList_store_row rfl 33 (.tmp 2) (.tmp 70) rfl _ #[.int .i64 0, .slice none 0 0, .int .i64 11] rfl rfl _ z a2 (gt_info _ _ _) (by rw [hzs]; rfl) (by simp [Value.oneCell']) ?_)
                  | fail)
                generalize hX : World.setRow _ _ _ = X9
                have b9 : X9.heap[w.heap.size]? = some (.cells #[.int .i64 0, .slice none 0 0, .int .i64 11] 33) := by rw [← hX]; exact setRow_heap _ _ _ _ _ _ a2
                have hBX : Below w.heap.size w X9 := by rw [← hX]; exact bSetRow HN.out.2 (Nat.le_refl _) _
                clear hX
                have hld := run_loadVar_row (P := Try.prog) X9 _ _ 33 _ _ _ b9 Try.underlying33 rfl (gt_info _ _ _)
                refine bodyPost_ret (by simp [results, Try.results17, Act.put, asAddr, Result.andThen, hld]; try rfl) rfl ?_
                exact RBodP.no HN.out.1 hBX
        · have hno : isO l = false := by
            unfold isO
            rw [decide_eq_false (fun h => hroom (by have := h.2; rw [hN, hfl] at this; exact this))]
            rfl
          have HN := Lib.hid (And.intro hno hB)
          have hr1 : (m : Int) < 3 + (N : Int) := by omega
          clear hno hbat hB hs17 hkd hN hfl hbV k0 HR
          go_wp2_with (first
            | (refine wpList_built (o := ⟨some 41, _, _, _, _, _⟩) rfl 33 #[(2, .const (.int .i64 11))] rfl (cs := #[.int .i64 0, .slice none 0 0, .int .i64 11]) (by simp only [List.map_toArray, List.map_cons, List.map_nil]; exact built_got11) ?_)
            | (refine wpList_store_row rfl 33 (.tmp 2) (.tmp 41) rfl _ #[.int .i64 0, .slice none 0 0, .int .i64 11] rfl rfl _ z a2 (gt_info _ _ _) (by rw [hzs]; rfl) (by simp [Value.oneCell']) ?_)
            | fail)
          generalize hX : World.setRow _ _ _ = X9
          have b9 : X9.heap[w.heap.size]? = some (.cells #[.int .i64 0, .slice none 0 0, .int .i64 11] 33) := by rw [← hX]; exact setRow_heap _ _ _ _ _ _ a2
          have hBX : Below w.heap.size w X9 := by rw [← hX]; exact bSetRow HN.out.2 (Nat.le_refl _) _
          clear hX
          have hld := run_loadVar_row (P := Try.prog) X9 _ _ 33 _ _ _ b9 Try.underlying33 rfl (gt_info _ _ _)
          refine bodyPost_ret (by simp [results, Try.results17, Act.put, asAddr, Result.andThen, hld]; try rfl) rfl ?_
          exact RBodP.no HN.out.1 hBX
end Go.Proofs.Ythmjkgpfnpdddaa
