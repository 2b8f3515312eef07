/- TreeTells: the walk (s9/trtells.py writes it). -/
import Derived.Test.YtcnbonmpocddmaaTrRRoot
import Derived.Test.YtcnbonmpocddmaaTrRDec
import Derived.Test.YtcnbonmpocddmaaTrArg
namespace Go.Proofs.Ytcnbonmpocddmaa
set_option linter.unusedSimpArgs false
set_option linter.unusedVariables false
open Go.RowKit Go.ChangeShapes Go.WideShapes Go.Sort

theorem big_tells {lv : Int} {A Ab : Option Addr} {n c nb cb : Nat} (w : World) (h : 1100 < n ∨ ¬ 1100 < n ∧ 500 < nb) : Calls Try.prog 3 #[.int .i64 lv, .slice A n c, .slice Ab nb cb] w (Ret w (.bool true)) := by
  rcases h with h | ⟨h, h2⟩
  · have h1 : (1100 : Int) < (n : Int) := by omega
    go_enter Try.func3, Try.ntmps3
    go_wp2_with (first
      | (go_at_call 7; refine Calls.mono (wakes23_any _) ?_; rintro e W3 ⟨rfl, hb3⟩)
      | fail)
    go_ret
    exact Ret.mk rfl hb3
  · have h1 : ¬ (1100 : Int) < (n : Int) := by omega
    have h3 : (500 : Int) < (nb : Int) := by omega
    go_enter Try.func3, Try.ntmps3
    go_wp2_with (first
      | (go_at_call 7; refine Calls.mono (wakes23_any _) ?_; rintro e W3 ⟨rfl, hb3⟩)
      | fail)
    go_ret
    exact Ret.mk rfl hb3
def encX (r : Option (List UInt8)) : List UInt8 := r.getD []
def encE (r : Option (List UInt8)) : Int := if r.isSome then 0 else 11
theorem EncT.all {w w' : World} {r : Option (List UInt8)} {e : Ending} (h : EncT w r e w') : ∃ A n c, e = .returned (.tuple #[.slice A n c, .int .i64 (encE r)]) ∧ Sl w' w'.heap.size 1 A n (bvs (encX r)) ∧ Below w.heap.size w w' := by
  cases r with
  | none => obtain ⟨h1, h2⟩ := h; exact ⟨none, 0, 0, h1, Sl.nil, h2⟩
  | some b => obtain ⟨A, c, h1, h2, h3⟩ := h; exact ⟨A, b.length, c, h1, Sl.of_own h2, h3⟩
theorem bytes_eqT' {A B : Option Addr} {n m c c' BA BB : Nat} {xs : List UInt8} (w : World) (h1 : Sl w BA 1 A n (bvs xs)) (h2 : Sl w BB 1 B m (bvs xs)) :
    Calls Try.prog 14 #[.slice A n c, .slice B m c'] w fun e w' => e = .returned (.bool true) ∧ w = w' :=
  (bytes_any A B n m c c' BA BB xs xs w h1 h2).mono fun e w' ⟨h, k⟩ => ⟨by rw [h, decide_eq_true rfl], k⟩
theorem dgs_one {l : List (List UInt8)} : ∀ u ∈ dgs l, u.oneCell' = true := fun u hu => by
  unfold dgs at hu
  obtain ⟨y, -, hy⟩ := List.mem_flatMap.1 hu
  exact oneCell_bvs y u hy
attribute [-go_sem] Builtin.append_
set_option maxHeartbeats 16000000 in
set_option maxRecDepth 100000 in
theorem tells_core {lv : Int} (hlv : -9223372036854775808 ≤ lv ∧ lv ≤ 9223372036854775807) {A Ab : Option Addr} {n c nb cb : Nat} {l : List (List UInt8)} {b : List UInt8} (w : World) (hl : DgAt w w.heap.size A n c l) (hn : n ≤ 1100) (hs : Sl w w.heap.size 1 Ab nb (bvs b)) (hnb : nb ≤ 500) (hcb : nb ≤ cb) (hcm : cb ≤ maxLen) :
    Calls Try.prog 3 #[.int .i64 lv, .slice A n c, .slice Ab nb cb] w (Ret w (.bool true)) := by
  have i1 : ¬ (1100 : Int) < (n : Int) := by omega
  have i2 : ¬ (500 : Int) < (nb : Int) := by omega
  obtain ⟨U, hU⟩ : ∃ q, w.alloc (.cells #[] 40) = q := ⟨_, rfl⟩
  have hown0 := own_none' w w.heap.size 40 32 (Nat.le_refl _)
  have hbU : Below w.heap.size w U := by rw [← hU]; exact (Below.refl _ _).alloc (Nat.le_refl _) _
  rw [hU] at hown0
  obtain ⟨A7, c7, W3, hrun, hown7, hg7, -⟩ := run_app (P := Try.prog) U (ty := 22) (t := 22) Try.underlying22 elemD hown0 (hl.sl.below hbU) (c := c) dgs_one (by simp only [maxLen]; omega) (by omega) hbU.size
  have hb3 : Below w.heap.size w W3 := hbU.trans ((Below.refl _ _).grown hg7 hbU.size (own_ge hown0))
  rw [Nat.zero_add, List.nil_append] at hown7
  rw [Nat.zero_add] at hrun
  have hin := DgAt.of_own hown7 hl.len hl.wide
  replace hl := hl.nxt hb3
  replace hs := hs.next hb3
  have hB := hb3
  have henc := tenc_any (lv := lv) W3 hin (by omega)
  obtain ⟨r, hr⟩ : ∃ q, encT lv l = q := ⟨_, rfl⟩
  rw [hr] at henc
  have HR := Lib.hid hr
  clear hr hown0 hbU hown7 hg7 hb3
  have HP1 := Lib.hid (And.intro hl (And.intro hs (And.intro hB hin)))
  clear hl hs hB hin
  go_enter Try.func3, Try.ntmps3
  go_upto_region 3 with (fail)
  go_wp2_with (first | rw [hU] | fail)
  refine Calls.mono henc ?_
  rintro e W4 he
  obtain ⟨Ax, nx, cx, rfl, hx, hb4⟩ := he.all
  clear he henc hU hrun
  obtain ⟨hl_o, hs_o, hB_o, hin_o⟩ := HP1.out
  have hl := hl_o.nxt hb4
  have hs := hs_o.next hb4
  have hB := bNext hB_o hb4
  have hin := hin_o.nxt hb4
  clear hl_o hs_o hB_o hin_o HP1
  have hrenc := rtenc_any (lv := lv) W4 hl (by omega)
  rw [HR.out] at hrenc
  clear hb4
  have HP2 := Lib.hid (And.intro hl (And.intro hs (And.intro hB (And.intro hin hx))))
  clear hl hs hB hin hx
  go_wp2_with fail
  refine Calls.mono hrenc ?_
  rintro e W5 he
  obtain ⟨Ay, ny, cy, rfl, hy, hb5⟩ := he.all
  clear he hrenc
  obtain ⟨hl_o, hs_o, hB_o, hin_o, hx_o⟩ := HP2.out
  have hl := hl_o.nxt hb5
  have hs := hs_o.next hb5
  have hB := bNext hB_o hb5
  have hin := hin_o.nxt hb5
  have hx := hx_o.next hb5
  clear hl_o hs_o hB_o hin_o hx_o HP2
  clear hb5
  obtain ⟨U, hU⟩ : ∃ q, W5.alloc (.cells #[] 5) = q := ⟨_, rfl⟩
  have hown0 := own_none' W5 W5.heap.size 5 1 (Nat.le_refl _)
  have hbU : Below W5.heap.size W5 U := by rw [← hU]; exact (Below.refl _ _).alloc (Nat.le_refl _) _
  rw [hU] at hown0
  obtain ⟨Ac, cc, W6, hrun, hown6, hg6, -⟩ := run_app (P := Try.prog) U (ty := 23) (t := 23) Try.underlying23 elemB hown0 (hs.below hbU) (c := cb) (oneCell_bvs _) (by simp only [maxLen]; omega) (by omega) hbU.size
  have hb6 : Below W5.heap.size W5 W6 := hbU.trans ((Below.refl _ _).grown hg6 hbU.size (own_ge hown0))
  rw [Nat.zero_add, List.nil_append] at hown6
  rw [Nat.zero_add] at hrun
  obtain ⟨_, _, e6, hc6, hm6⟩ := own_form hown6
  cases e6
  have hdec := tdec_any W6 (Sl.of_own hown6) (Nat.le_refl _) (by omega) hc6 hm6
  unfold TDec at hdec
  obtain ⟨dl, hdl⟩ : ∃ q, tLv b = q := ⟨_, rfl⟩
  obtain ⟨dk, hdk⟩ : ∃ q, tKids b = q := ⟨_, rfl⟩
  obtain ⟨de, hde⟩ : ∃ q, tEr b = q := ⟨_, rfl⟩
  have hdkl : dk.length ≤ 1000000 := by
    rw [← hdk]
    unfold tKids
    split
    · rw [kidsK_len]; have := (b1 b).toNat_lt; omega
    · simp
  rw [hdl, hdk, hde] at hdec
  have HD := Lib.hid (And.intro hdl (And.intro hdk hde))
  clear hdl hdk hde hown0 hbU hown6 hg6 hc6 hm6
  have HP3 := Lib.hid (And.intro hl (And.intro hs (And.intro hB (And.intro hin (And.intro hx hy)))))
  clear hl hs hB hin hx hy
  obtain ⟨hl_o, hs_o, hB_o, hin_o, hx_o, hy_o⟩ := HP3.out
  have hl := hl_o.nxt hb6
  have hs := hs_o.next hb6
  have hB := bNext hB_o hb6
  have hin := hin_o.nxt hb6
  have hx := hx_o.next hb6
  have hy := hy_o.next hb6
  clear hl_o hs_o hB_o hin_o hx_o hy_o HP3
  clear hb6
  have HP4 := Lib.hid (And.intro hl (And.intro hs (And.intro hB (And.intro hin (And.intro hx hy)))))
  clear hl hs hB hin hx hy
  go_wp2_with (first | rw [hU] | fail)
  refine Calls.mono hdec ?_
  rintro e W7 ⟨Am, nm, cm, rfl, hm, -, hb7⟩
  clear hdec hU hrun
  obtain ⟨hl_o, hs_o, hB_o, hin_o, hx_o, hy_o⟩ := HP4.out
  have hl := hl_o.nxt hb7
  have hs := hs_o.next hb7
  have hB := bNext hB_o hb7
  have hin := hin_o.nxt hb7
  have hx := hx_o.next hb7
  have hy := hy_o.next hb7
  clear hl_o hs_o hB_o hin_o hx_o hy_o HP4
  clear hb7
  have hrdec := rtdec_any W7 hs (Nat.le_refl _) (by omega) hcb hcm
  unfold RTDec at hrdec
  rw [HD.out.1, HD.out.2.1, HD.out.2.2] at hrdec
  have HP5 := Lib.hid (And.intro hl (And.intro hs (And.intro hB (And.intro hin (And.intro hx (And.intro hy hm))))))
  clear hl hs hB hin hx hy hm
  go_wp2_with fail
  refine Calls.mono hrdec ?_
  rintro e W8 ⟨Aq, nq, cq, rfl, hq, -, hb8⟩
  clear hrdec
  obtain ⟨hl_o, hs_o, hB_o, hin_o, hx_o, hy_o, hm_o⟩ := HP5.out
  have hl := hl_o.nxt hb8
  have hs := hs_o.next hb8
  have hB := bNext hB_o hb8
  have hin := hin_o.nxt hb8
  have hx := hx_o.next hb8
  have hy := hy_o.next hb8
  have hm := hm_o.nxt hb8
  clear hl_o hs_o hB_o hin_o hx_o hy_o hm_o HP5
  clear hb8
  have hz := gtZ
  obtain ⟨Y, hY, y15, bY⟩ := newRow W8 #[.int .i64 0, .slice none 0 0, .int .i64 0] #[.int .i64 (dl : Int), .slice Aq nq cq, .int .i64 de] 33
  have HP6 := Lib.hid (And.intro hl (And.intro hs (And.intro hB (And.intro hin (And.intro hx (And.intro hy (And.intro hm hq)))))))
  clear hl hs hB hin hx hy hm hq
  obtain ⟨hl_o, hs_o, hB_o, hin_o, hx_o, hy_o, hm_o, hq_o⟩ := HP6.out
  have hl := hl_o.nxt bY
  have hs := hs_o.next bY
  have hB := bNext hB_o bY
  have hin := hin_o.nxt bY
  have hx := hx_o.next bY
  have hy := hy_o.next bY
  have hm := hm_o.nxt bY
  have hq := hq_o.nxt bY
  clear hl_o hs_o hB_o hin_o hx_o hy_o hm_o hq_o HP6
  clear bY
  have hnod := allnodes_any Y hin (by omega)
  obtain ⟨ns, hns⟩ : ∃ q, allN l = q := ⟨_, rfl⟩
  have hln := allN_len l
  rw [hns] at hnod hln
  have HN := Lib.hid hns
  clear hns
  have HP7 := Lib.hid (And.intro hl (And.intro hs (And.intro hB (And.intro hin (And.intro hx (And.intro hy (And.intro hm (And.intro hq y15))))))))
  clear hl hs hB hin hx hy hm hq y15
  go_wp2_with (first
    | (refine wpList_new rfl hz rfl ?_)
    | (refine wpList_store_row rfl 33 (.tmp 15) (.tmp 52) rfl _ #[.int .i64 (dl : Int), .slice Aq nq cq, .int .i64 de] rfl rfl _ #[.int .i64 0, .slice none 0 0, .int .i64 0] (heap_alloc_new _ _) (gt_info _ _ _) rfl (by simp [Value.oneCell']) ?_)
    | (rw [hY])
    | fail)
  refine Calls.mono hnod ?_
  rintro e W9 ⟨v16, L16, rfl, hn16, hb9⟩
  obtain ⟨A16, c16, rfl, -⟩ := own_form hn16.own
  clear hnod hY hz
  obtain ⟨hl_o, hs_o, hB_o, hin_o, hx_o, hy_o, hm_o, hq_o, y15_o⟩ := HP7.out
  have hl := hl_o.nxt hb9
  have hs := hs_o.next hb9
  have hB := bNext hB_o hb9
  have hin := hin_o.nxt hb9
  have hx := hx_o.next hb9
  have hy := hy_o.next hb9
  have hm := hm_o.nxt hb9
  have hq := hq_o.nxt hb9
  have y15 := bBlk hb9 (Array.getElem?_eq_some_iff.1 y15_o).1 y15_o
  clear hl_o hs_o hB_o hin_o hx_o hy_o hm_o hq_o y15_o HP7
  clear hb9
  have hrnod := rallnodes_any W9 hl (by omega)
  rw [HN.out] at hrnod
  have HP8 := Lib.hid (And.intro hl (And.intro hs (And.intro hB (And.intro hin (And.intro hx (And.intro hy (And.intro hm (And.intro hq (And.intro y15 hn16)))))))))
  clear hl hs hB hin hx hy hm hq y15 hn16
  go_wp2_with fail
  refine Calls.mono hrnod ?_
  rintro e Z ⟨v17, L17, rfl, hn17, hb10⟩
  obtain ⟨A17, c17, rfl, -⟩ := own_form hn17.own
  clear hrnod
  obtain ⟨hl_o, hs_o, hB_o, hin_o, hx_o, hy_o, hm_o, hq_o, y15_o, hn16_o⟩ := HP8.out
  have hl := hl_o.nxt hb10
  have hs := hs_o.next hb10
  have hB := bNext hB_o hb10
  have hin := hin_o.nxt hb10
  have hx := hx_o.next hb10
  have hy := hy_o.next hb10
  have hm := hm_o.nxt hb10
  have hq := hq_o.nxt hb10
  have y15 := bBlk hb10 (Array.getElem?_eq_some_iff.1 y15_o).1 y15_o
  have hn16 := NdS.below hn16_o hb10
  clear hl_o hs_o hB_o hin_o hx_o hy_o hm_o hq_o y15_o hn16_o HP8
  clear hb10
  have HP9 := Lib.hid (And.intro hl (And.intro hs (And.intro hB (And.intro hin (And.intro hx (And.intro hy (And.intro hm (And.intro hq (And.intro y15 (And.intro hn16 hn17))))))))))
  clear hl hs hB hin hx hy hm hq y15 hn16 hn17
  go_wp2_with fail
  go_loopw [18] (fun s18 wr => ∃ k : Nat, s18 = .int .i64 k ∧ k ≤ ns.length ∧ Below Z.heap.size Z wr) (fun s18 _ => ns.length - (intOf s18).toNat)
  case atStart => exact ⟨0, rfl, by omega, Below.refl _ _⟩
  case round =>
    obtain ⟨k, rfl, hk, hBr⟩ := hrel
    by_cases hlt : k < ns.length
    · have hlt' : (k : Int) < (ns.length : Int) := by omega
      have hna := NdS.below HP9.out.2.2.2.2.2.2.2.2.2.1 hBr
      have hnb2 := NdS.below HP9.out.2.2.2.2.2.2.2.2.2.2 hBr
      have hLa : L16.length = ns.length := by rw [← hna.txt, ndT, List.length_map]
      have hLb : L17.length = ns.length := by rw [← hnb2.txt, ndT, List.length_map]
      obtain ⟨xa, hxa⟩ : ∃ x, L16[k]? = some x := ⟨_, List.getElem?_eq_getElem (by omega)⟩
      obtain ⟨xb, hxb⟩ : ∃ x, L17[k]? = some x := ⟨_, List.getElem?_eq_getElem (by omega)⟩
      have ha1 : ns[k]? = some xa.2.2 := by rw [← hna.txt, ndT, List.getElem?_map, hxa]; rfl
      have hb1' : ns[k]? = some xb.2.2 := by rw [← hnb2.txt, ndT, List.getElem?_map, hxb]; rfl
      have hxab : xb.2.2 = xa.2.2 := by rw [ha1] at hb1'; simpa using hb1'.symm
      obtain ⟨ba, c2, ev, hba1, hba2, hbca, -⟩ := hna.entry hxa
      cases ev
      obtain ⟨bb, c3, ev, hbb1, hbb2, hbcb, -⟩ := hnb2.entry hxb
      cases ev
      have hnxa := (hna.each xa (List.mem_of_getElem? hxa)).sl
      have hnxb := (hnb2.each xb (List.mem_of_getElem? hxb)).sl
      rw [hxab] at hnxb
      have hby := fun (U : World) (h : Below wr.heap.size wr U) => bytes_eqT' (c := xa.2.1) (c' := xb.2.1) U (hnxa.below h) (hnxb.below h)
      rw [← hxab] at hby
      have HB := Lib.hid hBr
      unfold slv at hbca hbcb
      have g2 : IntKind.i64.wrap ((k : Int) + 1) = ((k + 1 : Nat) : Int) := by rw [wrap_small _ (by omega) (by omega)]; omega
      rw [hxab] at hby hbcb
      obtain ⟨nxa, hnxl⟩ : ∃ q, xa.2.2.length = q := ⟨_, rfl⟩
      rw [hnxl] at hbca hbcb hby
      let S : World → Prop := fun w' => Below wr.heap.size wr w'
      have q1 : ∀ w', S w' → w'.cell? ⟨ba, k, none⟩ = some (.slice xa.1 nxa xa.2.1) := fun w' h => (Below.cell (show Below wr.heap.size wr w' from h) (p := ⟨ba, k, none⟩) hba2).trans hbca
      have q2 : ∀ w', S w' → w'.cell? ⟨bb, k, none⟩ = some (.slice xb.1 nxa xb.2.1) := fun w' h => (Below.cell (show Below wr.heap.size wr w' from h) (p := ⟨bb, k, none⟩) hbb2).trans hbcb
      have hS0 : S wr.drew := (Below.refl _ _).drew
      clear hna hnb2 hLa hLb hxa hxb ha1 hb1' hxab hba1 hbb1 hbca hbcb hnxa hnxb hnxl hBr
      go_upto_region 14 with (fail)
      refine wp_region_held (S := S) (by kernel_rfl) ?_
      change wpAnyH _ _ _ _ S _ _ _ wr.drew
      change At 0 _
      iterate 8 (first | (apply tkA; (case hi => (simp only [List.getElem?_toArray, List.getElem?_cons_zero, List.getElem?_cons_succ]; rfl)); (case hw => rfl); (case hy => (intro w' hSw; have p1 := q1 w' hSw; have p2 := q2 w' hSw; (try simp only [S] at hSw); go_simp; (try with_reducible rfl))); (case hs => kernel_rfl); (case hf => kernel_rfl); (case hr => kernel_rfl); (case hQ => exact fun _ _ _ h => h); (case hS => assumption); (try simp only [Act.put, List.setIfInBounds_toArray, List.set_cons_zero, List.set_cons_succ, Nat.reduceAdd])) | (apply skA; (case hi => (simp only [List.getElem?_toArray, List.getElem?_cons_zero, List.getElem?_cons_succ]; rfl)); (case hw => rfl); (case hs => kernel_rfl); (case hf => kernel_rfl); (case hr => kernel_rfl); (case hQ => exact fun _ _ _ h => h); (case hS => assumption); (try simp only [Act.put, List.setIfInBounds_toArray, List.set_cons_zero, List.set_cons_succ, Nat.reduceAdd])))
      change wpAnyH _ _ _ _ _ _ _ _ _
      refine wpAnyH_ready (rs := [8]) (by kernel_rfl) (by simp) (AllReadyH.cons (o := ?oo8_1) ?hoo8_1 (fun K hK => ?steponly1) AllReadyH.nil); (case hoo8_1 => (simp only [List.getElem?_toArray, List.getElem?_cons_zero, List.getElem?_cons_succ]; rfl))
      go_simp
      refine Calls.mono (hby _ hS0) ?_
      rintro e U1 ⟨rfl, hbU1⟩
      have hSU1 : S U1 := by rw [← hbU1]; exact hS0
      refine hK.out _ _ hSU1 (fun _ => ?_)
      clear hK K hbU1
      (try simp only [Act.put, List.setIfInBounds_toArray, List.set_cons_zero, List.set_cons_succ])
      change At 9 _
      iterate 1 (first | (apply tkA; (case hi => (simp only [List.getElem?_toArray, List.getElem?_cons_zero, List.getElem?_cons_succ]; rfl)); (case hw => rfl); (case hy => (intro w' hSw; (try simp only [S] at hSw); go_simp; (try with_reducible rfl))); (case hs => kernel_rfl); (case hf => kernel_rfl); (case hr => kernel_rfl); (case hQ => exact fun _ _ _ h => h); (case hS => assumption); (try simp only [Act.put, List.setIfInBounds_toArray, List.set_cons_zero, List.set_cons_succ, Nat.reduceAdd])) | (apply skA; (case hi => (simp only [List.getElem?_toArray, List.getElem?_cons_zero, List.getElem?_cons_succ]; rfl)); (case hw => rfl); (case hs => kernel_rfl); (case hf => kernel_rfl); (case hr => kernel_rfl); (case hQ => exact fun _ _ _ h => h); (case hS => assumption); (try simp only [Act.put, List.setIfInBounds_toArray, List.set_cons_zero, List.set_cons_succ, Nat.reduceAdd])))
      change wpAnyH _ _ _ _ _ _ _ _ _
      refine wpAnyH_done (by kernel_rfl) ?_ _
      have HE := Lib.hid (HB.out.trans (Below.mono (show Below wr.heap.size wr _ from hSU1) (Below.size HB.out)))
      clear hSU1 hS0 q1 q2 hby
      go_wp2_with fail
      go_roundw
      case rel => exact ⟨k + 1, by go_num, by omega, HE.out⟩
      case measure => simp [intOf]; omega
    · obtain rfl : k = ns.length := by omega
      have hend : ¬ (ns.length : Int) < (ns.length : Int) := by omega
      obtain ⟨hl_o, hs_o, hB_o, hin_o, hx_o, hy_o, hm_o, hq_o, y15_o, hn16_o, hn17_o⟩ := HP9.out
      have hl := hl_o.nxt hBr
      have hs := hs_o.next hBr
      have hB := bNext hB_o hBr
      have hin := hin_o.nxt hBr
      have hx := hx_o.next hBr
      have hy := hy_o.next hBr
      have hm := hm_o.nxt hBr
      have hq := hq_o.nxt hBr
      have y15 := bBlk hBr (Array.getElem?_eq_some_iff.1 y15_o).1 y15_o
      have hn16 := NdS.below hn16_o hBr
      have hn17 := NdS.below hn17_o hBr
      clear hl_o hs_o hB_o hin_o hx_o hy_o hm_o hq_o y15_o hn16_o hn17_o HP9
      have c0 := blk_cell y15 (k := 0) rfl
      have c1 := blk_cell y15 (k := 1) rfl
      have c2 := blk_cell y15 (k := 2) rfl
      have hgl := (Array.getElem?_eq_some_iff.1 y15).1
      have hby := fun W (h : Below wr.heap.size wr W) => bytes_eqT' (c := cx) (c' := cy) W (hx.below h) (hy.below h)
      have hk1 := fun W (h : Below wr.heap.size wr W) => keepd_same (c := cm) (c' := cq) W (hm.nxt h) (hq.nxt h) (Nat.le_refl _) (Nat.le_refl _) (by have := hm.len; omega)
      have hk2 := fun W (h : Below wr.heap.size wr W) => keepd_same (c := c7) (c' := c) W (hin.nxt h) (hl.nxt h) (Nat.le_refl _) (Nat.le_refl _) (by omega)
      have hr1 := fun W (h : Below wr.heap.size wr W) => root_any W (hin.nxt h) (by omega)
      have hr2 := fun W (h : Below wr.heap.size wr W) => rroot_any W (hl.nxt h) (by omega)
      have hv1 := fun W => levels_any lv W
      have hv2 := fun W => rlevels_any lv W
      have hv3 := fun W => levels_any (n : Int) W
      have hv4 := fun W => rlevels_any (n : Int) W
      have heq := fun W => dg_eq (rootT_len l) W
      obtain ⟨R, hR⟩ : ∃ q, (bvs (rootT l)).toArray = q := ⟨_, rfl⟩
      rw [hR] at hr1 hr2
      simp only [hR] at heq
      generalize lvT lv = t1 at *
      generalize lvT (n : Int) = t2 at *
      have HBW := Lib.hid hB
      have hrefl : Below wr.heap.size wr wr := Below.refl _ _
      clear hR y15 hx hy hm hq hin hl hs hB hn16 hn17
      generalize encE r = er at *
      go_wp2_with fail
      refine Calls.mono (hby _ hrefl) ?_
      rintro e w' ⟨rfl, rfl⟩
      clear hby
      go_wp2_with fail
      refine Calls.mono (hk1 _ hrefl) ?_
      rintro e V1 ⟨rfl, hV1⟩
      clear hk1
      have c2' := (hV1.cell (p := ⟨W8.heap.size, 2, none⟩) hgl).trans c2
      go_wp2_with fail
      refine Calls.mono (hr1 _ hV1) ?_
      rintro e V2 ⟨rfl, hb⟩
      have hV2 := hV1.trans (hb.mono hV1.size)
      clear hr1 hV1 hb c2' c2 c1 c0
      go_wp2_with fail
      refine Calls.mono (hr2 _ hV2) ?_
      rintro e V3 ⟨rfl, hb⟩
      have hV3 := hV2.trans (hb.mono hV2.size)
      clear hr2 hV2 hb
      go_wp2_with fail
      refine Calls.mono (hv1 _) ?_
      rintro e V4 ⟨rfl, hb⟩
      have hV4 := hV3.trans (hb.mono hV3.size)
      clear hv1 hV3 hb
      go_wp2_with fail
      refine Calls.mono (hv2 _) ?_
      rintro e V5 ⟨rfl, hb⟩
      have hV5 := hV4.trans (hb.mono hV4.size)
      clear hv2 hV4 hb
      go_wp2_with fail
      refine Calls.mono (hv3 _) ?_
      rintro e V6 ⟨rfl, hb⟩
      have hV6 := hV5.trans (hb.mono hV5.size)
      clear hv3 hV5 hb
      go_wp2_with fail
      refine Calls.mono (hv4 _) ?_
      rintro e V7 ⟨rfl, hb⟩
      have hV7 := hV6.trans (hb.mono hV6.size)
      clear hv4 hV6 hb
      go_wp2_with fail
      refine Calls.mono (hk2 _ hV7) ?_
      rintro e V8 ⟨rfl, hb⟩
      have hV8 := hV7.trans (hb.mono hV7.size)
      clear hk2 hV7 hb
      go_wp2_with (first
        | (go_at_call 7; refine Calls.mono (wakes23_any _) ?_; rintro e W19 ⟨rfl, hb19⟩)
        | fail)
      go_ret
      exact Ret.mk rfl (bNext (bNext HBW.out hV8) hb19)
theorem treeTells_walk {H : Type} {enc : TypeId × Value → H} {W : World} {base : Nat} {v0 v1 v2 : Value} {d0 d1 d2 : DataW H} {p0 p1 p2 : List MemPlace}
    (k0 : Value.okWide Try.prog W .any base 3 v0) (h0 : DataW.Trod enc Try.prog W 0 (fun _ => true) true 3 v0 d0 p0)
    (k1 : Value.okWide Try.prog W .any base 22 v1) (h1 : DataW.Trod enc Try.prog W 0 (fun _ => true) true 22 v1 d1 p1)
    (k2 : Value.okWide Try.prog W .any base 23 v2) (h2 : DataW.Trod enc Try.prog W 0 (fun _ => true) true 23 v2 d2 p2)
    : Calls Try.prog 3 #[v0, v1, v2] W fun e W' => e = .returned (.bool true) ∧ Below W.heap.size W W' := by
  obtain ⟨lv, rfl, _, _, wa⟩ := open_int Try.underlying3 k0 h0
  have ha := wf64 wa
  obtain ⟨A, n, c, l, rfl, hl⟩ := open_digests k1 h1
  obtain ⟨Ab, nb, cb, b, rfl, hbl, hn0, hc0, hq, hsl⟩ := open_bytes_sl Try.underlying23 Try.underlying5 (by kernel_rfl) k2 h2
  by_cases h : 1100 < n ∨ ¬ 1100 < n ∧ 500 < nb
  · exact big_tells W h
  · exact tells_core ha W hl (by omega) hsl (by omega) hn0 hc0
end Go.Proofs.Ytcnbonmpocddmaa
