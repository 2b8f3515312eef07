/- The walk over LeafBack. (s7/lfback.py writes it.) -/
import Derived.Test.YthmjkgpfnpdddaaLfWakes
import Derived.Test.YthmjkgpfnpdddaaLfArg
import Derived.Test.YthmjkgpfnpdddaaAuto
namespace Go.Proofs.Ythmjkgpfnpdddaa
set_option linter.unusedSimpArgs false
set_option linter.unusedVariables false
open Go.RowKit Go.ChangeShapes Go.WideShapes Go.Sort

theorem wpList_built_g {P : Program} {ops : Array Oper} {rest : List Oper} {o : Oper} {a : Act} {w : World} {Q : Exit → Act → World → Prop} (hw : Region.wanted o (yielded ops a.tmps) = true) (t : TypeId) (parts : Array (Nat × Operand)) (ho : o.op = .build t parts) {cs : Array Value}
    (hf : P.built t (parts.map fun (i, x) => (i, a.eval x)).toList = some cs) (h : wpList P ops Q rest (a.put o.dst (.agg cs)) w) : wpList P ops Q (o :: rest) a w :=
  wpList_step fun _ hK => by rw [if_pos hw]; exact wp_built t parts ho hf (hK _ _ h)
theorem lf_len3 {l : List EN} (h : goodE l = true) : l.length ≤ 3 := (goodE_parts h).1.2
theorem lf_take {l : List EN} (hok : ∀ x ∈ l, x.Ok) (h : goodE l = true) : (lfEnc l).take (2 + l.length * 36) = lfB l := by
  unfold lfEnc
  rw [if_pos h, ← lfB_len hok]
  obtain ⟨r, e⟩ := seal_app (lfB l)
  rw [e, List.take_left]
theorem lf_mark {l : List EN} (hok : ∀ x ∈ l, x.Ok) (h : goodE l = true) : at8 (lfEnc l) (2 + l.length * 36) = at8 (chk (lfB l)) 0 := by
  unfold lfEnc
  rw [if_pos h, ← lfB_len hok]
  have := seal_chk (b := lfB l) (i := 0) (by omega)
  exact this
theorem take_row {w : World} {g : Nat} {b : Blk} {t : TypeId} (h : w.heap[g]? = some (.cells (bvs b).toArray t)) {m : Nat} (hm : m ≤ b.length) : Sl w w.heap.size 1 (some ⟨g, 0, none⟩) m (bvs (b.take m)) := by
  refine ⟨by rw [bvs_len, List.length_take, Nat.min_eq_left hm, Nat.mul_one], fun _ => ⟨g, 0, rfl, (Array.getElem?_eq_some_iff.1 h).1, fun j v hj => ?_⟩⟩
  rw [Nat.zero_add]
  refine blk_cell h ?_
  rw [List.getElem?_toArray]
  rw [bvs, List.map_take, List.getElem?_take] at hj
  split at hj
  · exact hj
  · cases hj
set_option maxRecDepth 100000 in
theorem big_back {A A' A2 : Option Addr} {n c m c' p c2 : Nat} (w : World) (h : 20 < n ∨ (¬ 20 < n ∧ 20 < m) ∨ (¬ 20 < n ∧ ¬ 20 < m ∧ 300 < p)) : Calls Try.prog 9 #[.slice A n c, .slice A' m c', .slice A2 p c2] w (Ret w (.bool true)) := by
  go_enter Try.func9, Try.ntmps9
  rcases h with h | ⟨h, h'⟩ | ⟨h, h', h2⟩
  · have q1 : (20 : Int) < (n : Int) := by omega
    go_wp2_with (first
      | (go_at_call 23; refine Calls.mono (wakes05_any _) ?_; rintro e W3 ⟨rfl, hb3⟩)
      | fail)
    go_ret
    exact Ret.mk rfl hb3
  · have q1 : ¬ (20 : Int) < (n : Int) := by omega
    have q2 : (20 : Int) < (m : Int) := by omega
    go_wp2_with (first
      | (go_at_call 23; refine Calls.mono (wakes05_any _) ?_; rintro e W3 ⟨rfl, hb3⟩)
      | fail)
    go_ret
    exact Ret.mk rfl hb3
  · have q1 : ¬ (20 : Int) < (n : Int) := by omega
    have q2 : ¬ (20 : Int) < (m : Int) := by omega
    have q3 : (300 : Int) < (p : Int) := by omega
    go_wp2_with (first
      | (go_at_call 23; refine Calls.mono (wakes05_any _) ?_; rintro e W3 ⟨rfl, hb3⟩)
      | fail)
    go_ret
    exact Ret.mk rfl hb3
set_option maxHeartbeats 32000000 in
set_option maxRecDepth 100000 in
theorem back_core {A A' A2 : Option Addr} {n c m c' p c2 : Nat} {l lm : List EN} {ps : List Int} (w : World) (hl : LfAt w w.heap.size A n c l) (hm : LfAt w w.heap.size A' m c' lm) (hp : IvAt w w.heap.size A2 p c2 ps) (hn : n ≤ 20) (hmn : m ≤ 20) (hpn : p ≤ 300) :
    Calls Try.prog 9 #[.slice A n c, .slice A' m c', .slice A2 p c2] w (Ret w (.bool true)) := by
  have hPl := lfEnc_len hl.ok
  have hQl := lfEnc_len hm.ok
  have hRl := rtEnc_len ps
  have hln := hl.len
  have hbk := lf_back hl.ok
  have hnr := lf_noRt hl.ok
  have htk := lf_take hl.ok
  have hmk := lf_mark hl.ok
  have hl3 := lf_len3 (l := l)
  have hinj := lf_inj hl.ok hm.ok
  have hrb := rt_back (l := ps)
  have hrn := rt_noLf (l := ps)
  have hBl := lfB_len hl.ok
  have hlE := fun W (h : LfAt W W.heap.size A n c l) => lenc_any W h
  have hmE := fun W (h : LfAt W W.heap.size A' m c' lm) => lenc_any W h
  have hpE := fun W (h : IvAt W W.heap.size A2 p c2 ps) => root_any W h (by omega)
  unfold bkv at hlE hmE hpE
  have hzR : goodR ps = false → rtEnc ps = zblk := fun h => by unfold rtEnc; rw [h]; rfl
  rw [hln] at htk hmk hl3 hBl
  obtain ⟨G1, hG1⟩ : ∃ q, goodE l = q := ⟨_, rfl⟩
  obtain ⟨G2, hG2⟩ : ∃ q, goodE lm = q := ⟨_, rfl⟩
  obtain ⟨GR, hGR⟩ : ∃ q, goodR ps = q := ⟨_, rfl⟩
  obtain ⟨P, hP⟩ : ∃ q, lfEnc l = q := ⟨_, rfl⟩
  obtain ⟨P2, hP2⟩ : ∃ q, lfEnc lm = q := ⟨_, rfl⟩
  obtain ⟨R, hR⟩ : ∃ q, rtEnc ps = q := ⟨_, rfl⟩
  rw [hG1] at hbk hnr htk hmk hl3 hinj
  rw [hG2] at hinj
  rw [hGR] at hrb hrn hzR
  simp only [hP] at hPl hbk hnr htk hmk hinj hlE
  simp only [hP2] at hQl hinj hmE
  simp only [hR] at hRl hrb hrn hpE hzR
  simp only [hG1] at hlE
  simp only [hG2] at hmE
  simp only [hGR] at hpE
  obtain ⟨cp, hcp⟩ : ∃ q, (bvs P).toArray = q := ⟨_, rfl⟩
  obtain ⟨cq, hcq⟩ : ∃ q, (bvs P2).toArray = q := ⟨_, rfl⟩
  obtain ⟨cr, hcr⟩ : ∃ q, (bvs R).toArray = q := ⟨_, rfl⟩
  have hpi := bk_info hPl
  have hqi := bk_info hQl
  have hri := bk_info hRl
  have hpli := bk_linfo hPl
  have hqli := bk_linfo hQl
  have hps := blk_sizes zblk_len hPl
  have hqs := blk_sizes zblk_len hQl
  have hrs := blk_sizes zblk_len hRl
  have hp1 := all_oneCell_toArray (oneCell_bvs P)
  have hq1 := all_oneCell_toArray (oneCell_bvs P2)
  have hr1 := all_oneCell_toArray (oneCell_bvs R)
  have hqe := fun W => blk_q hPl hQl W
  have hze := fun W => blk_q zblk_len zblk_len W
  have hbz := blkZ
  have hb0 := built_blk0
  have hD := fun W => ldec_any hPl W
  have hV := fun W => lleaves_any hPl W
  have hRV := fun W => lleaves_any hRl W
  have hRD := fun W => ldec_any hRl W
  unfold LDec bkv at hD hRD
  unfold LLvs bkv at hV hRV
  obtain ⟨zb, hzb⟩ : ∃ q, (bvs zblk).toArray = q := ⟨_, rfl⟩
  rw [hzb] at hbz hps hqs hrs hb0
  rw [hcp] at hpi hps hp1
  rw [hcq] at hqi hqs hq1
  rw [hcr] at hri hrs hr1
  simp only [hcp] at hlE hqe hD hV
  simp only [hcq] at hmE hqe
  simp only [hcr] at hpE hRV hRD
  simp only [hzb, beq_self_eq_true] at hze
  have hC4 := chk_len (lfB l)
  have HC := Lib.hid (And.intro hcp (And.intro hcq (And.intro hcr (And.intro hzb hzR))))
  have HF := Lib.hid (And.intro hbk (And.intro hnr (And.intro htk (And.intro hmk (And.intro hl3 (And.intro hinj (And.intro hBl hln)))))))
  have HR := Lib.hid (And.intro hrb hrn)
  have HT := Lib.hid (And.intro hlE (And.intro hmE (And.intro hpE (And.intro hD (And.intro hV (And.intro hRV hRD))))))
  have HQ := Lib.hid (And.intro hqe hze)
  have HG := Lib.hid (And.intro hG1 (And.intro hG2 hGR))
  clear hcp hcq hcr hzb hbk hnr htk hmk hl3 hinj hBl hrb hrn hlE hmE hpE hD hV hRV hRD hqe hze hG1 hG2 hGR hP hP2 hR hzR hln
  have q1 : ¬ (20 : Int) < (n : Int) := by omega
  have q2 : ¬ (20 : Int) < (m : Int) := by omega
  have q3 : ¬ (300 : Int) < (p : Int) := by omega
  have hB := Below.refl w.heap.size w
  go_enter Try.func9, Try.ntmps9
  go_upto_region 3 with (fail)
  have HP1 := Lib.hid (And.intro hl (And.intro hm (And.intro hp hB)))
  clear hl hm hp hB
  have hc := HT.out.1 _ HP1.out.1
  go_wp2_with fail
  refine Calls.mono hc ?_
  rintro e w7 ⟨rfl, hb1⟩
  obtain ⟨Y7, hY7, y7, bY7⟩ := newRow w7 zb cp 40
  have hb := hb1.trans (bY7.mono hb1.size)
  obtain ⟨hl_o, hm_o, hp_o, hB_o⟩ := HP1.out
  have hl := hl_o.nxt hb
  have hm := hm_o.nxt hb
  have hp := hp_o.nxt hb
  have hB := bNext hB_o hb
  clear hl_o hm_o hp_o hB_o HP1
  clear hb hb1 bY7 hc
  have HP2 := Lib.hid (And.intro hl (And.intro hm (And.intro hp (And.intro hB y7))))
  clear hl hm hp hB y7
  go_upto_region 4 with (first
    | (refine wpList_new rfl hbz rfl ?_)
    | (refine wpList_store_row rfl 40 (.tmp 7) (.tmp 39) rfl _ cp rfl rfl _ zb (heap_alloc_new _ _) hpi hps hp1 ?_)
    | fail)
  try rw [hY7]
  clear hY7
  have hc := HT.out.2.1 _ HP2.out.2.1
  go_wp2_with fail
  refine Calls.mono hc ?_
  rintro e w9 ⟨rfl, hb1⟩
  obtain ⟨Y9, hY9, y9, bY9⟩ := newRow w9 zb cq 40
  have hb := hb1.trans (bY9.mono hb1.size)
  obtain ⟨hl_o, hm_o, hp_o, hB_o, y7_o⟩ := HP2.out
  have hl := hl_o.nxt hb
  have hm := hm_o.nxt hb
  have hp := hp_o.nxt hb
  have hB := bNext hB_o hb
  have y7 := bBlk hb (Array.getElem?_eq_some_iff.1 y7_o).1 y7_o
  clear hl_o hm_o hp_o hB_o y7_o HP2
  clear hb hb1 bY9 hc
  have HP3 := Lib.hid (And.intro hl (And.intro hm (And.intro hp (And.intro hB (And.intro y7 y9)))))
  clear hl hm hp hB y7 y9
  go_upto_region 5 with (first
    | (refine wpList_new rfl hbz rfl ?_)
    | (refine wpList_store_row rfl 40 (.tmp 9) (.tmp 44) rfl _ cq rfl rfl _ zb (heap_alloc_new _ _) hqi hqs hq1 ?_)
    | fail)
  try rw [hY9]
  clear hY9
  cases G1
  · rw [show erE false = 11 from rfl]
    go_upto_region 11 with (fail)
    let S : World → Prop := fun w' => Below Y9.heap.size Y9 w'
    have hS0 : S Y9.drew := (Below.refl _ _).drew
    refine wp_region_held (S := S) (by kernel_rfl) ?_
    change wpAnyH _ _ _ _ S _ _ _ Y9.drew
    change At 0 _
    iterate 15 (first | (apply tkA; (case hi => (simp only [List.getElem?_toArray, List.getElem?_cons_zero, List.getElem?_cons_succ]; rfl)); (case hw => rfl); (case hy => (intro w' hSw; (try simp only [S] at hSw); go_simp; (try with_reducible rfl))); (case hs => kernel_rfl); (case hf => kernel_rfl); (case hr => kernel_rfl); (case hQ => exact fun _ _ _ h => h); (case hS => assumption); (try simp only [Act.put, List.setIfInBounds_toArray, List.set_cons_zero, List.set_cons_succ, Nat.reduceAdd])) | (apply skA; (case hi => (simp only [List.getElem?_toArray, List.getElem?_cons_zero, List.getElem?_cons_succ]; rfl)); (case hw => rfl); (case hs => kernel_rfl); (case hf => kernel_rfl); (case hr => kernel_rfl); (case hQ => exact fun _ _ _ h => h); (case hS => assumption); (try simp only [Act.put, List.setIfInBounds_toArray, List.set_cons_zero, List.set_cons_succ, Nat.reduceAdd])))
    change wpAnyH _ _ _ _ _ _ _ _ _
    refine wpAnyH_done (by kernel_rfl) ?_ _
    obtain ⟨x11, hx11⟩ : ∃ q, Y9.drew = q := ⟨_, rfl⟩
    have hb : Below Y9.heap.size Y9 x11 := by rw [← hx11]; exact hS0
    rw [hx11]
    clear hx11 hS0
    obtain ⟨hl_o, hm_o, hp_o, hB_o, y7_o, y9_o⟩ := HP3.out
    have hl := hl_o.nxt hb
    have hm := hm_o.nxt hb
    have hp := hp_o.nxt hb
    have hB := bNext hB_o hb
    have y7 := bBlk hb (Array.getElem?_eq_some_iff.1 y7_o).1 y7_o
    have y9 := bBlk hb (Array.getElem?_eq_some_iff.1 y9_o).1 y9_o
    clear hl_o hm_o hp_o hB_o y7_o y9_o HP3
    clear hb
    have HP4 := Lib.hid (And.intro hl (And.intro hm (And.intro hp (And.intro hB (And.intro y7 y9)))))
    clear hl hm hp hB y7 y9
    go_upto_region 13 with (fail)
    have hc := HT.out.2.2.1 _ HP4.out.2.2.1
    go_wp2_with fail
    refine Calls.mono hc ?_
    rintro e w16 ⟨rfl, hb1⟩
    obtain ⟨Y16, hY16, y16, bY16⟩ := newRow w16 zb cr 40
    have hb := hb1.trans (bY16.mono hb1.size)
    obtain ⟨hl_o, hm_o, hp_o, hB_o, y7_o, y9_o⟩ := HP4.out
    have hl := hl_o.nxt hb
    have hm := hm_o.nxt hb
    have hp := hp_o.nxt hb
    have hB := bNext hB_o hb
    have y7 := bBlk hb (Array.getElem?_eq_some_iff.1 y7_o).1 y7_o
    have y9 := bBlk hb (Array.getElem?_eq_some_iff.1 y9_o).1 y9_o
    clear hl_o hm_o hp_o hB_o y7_o y9_o HP4
    clear hb hb1 bY16 hc
    have HP5 := Lib.hid (And.intro hl (And.intro hm (And.intro hp (And.intro hB (And.intro y7 (And.intro y9 y16))))))
    clear hl hm hp hB y7 y9 y16
    go_upto_region 14 with (first
      | (refine wpList_new rfl hbz rfl ?_)
      | (refine wpList_store_row rfl 40 (.tmp 16) (.tmp 105) rfl _ cr rfl rfl _ zb (heap_alloc_new _ _) hri hrs hr1 ?_)
      | fail)
    try rw [hY16]
    clear hY16
    cases GR
    · rw [show erE false = 11 from rfl]
      have hcz : cr = zb := by rw [← HC.out.2.2.1, HC.out.2.2.2.2 (by trivial), HC.out.2.2.2.1]
      have z16 := HP5.out.2.2.2.2.2.2
      rw [hcz] at z16 hri
      have hze := HQ.out.2
      clear hcz
      go_wp2_with (first
        | (refine wpList_load_row_g (by simp [Region.wanted, yielded, Act.put]) 40 (.tmp 16) rfl _ rfl _ zb (0, 0) _ z16 Try.underlying40 rfl hri ?_)
        | (refine wpList_built_g (by simp [Region.wanted, yielded, Act.put]) 40 #[] rfl (cs := zb) (by simp only [List.map_toArray, List.map_nil]; exact hb0) ?_)
        | (go_at_call 23; refine Calls.mono (wakes05_any _) ?_; rintro e W9 ⟨rfl, hb9⟩)
        | fail)
      go_ret
      exact Ret.mk rfl (bNext HP5.out.2.2.2.1 hb9)
    · rw [show erE true = 0 from rfl]
      go_upto_region 16 with (fail)
      have hc := HT.out.2.2.2.2.2.1 Y16
      rw [(HR.out.1 (by trivial)).1, (HR.out.1 (by trivial)).2, show erE true = 0 from rfl] at hc
      have yb := HP5.out.2.2.2.2.2.2
      refine wp_region_lit ?_
      refine wpList_load_row rfl 40 (.tmp 16) rfl _ rfl _ cr (0, 0) _ yb Try.underlying40 rfl hri ?_
      (try simp only [Act.put, List.setIfInBounds_toArray, List.set_cons_zero, List.set_cons_succ])
      clear yb
      go_wp2_with fail
      refine Calls.mono hc ?_
      rintro e w18 ⟨A18, n18, c18, rfl, at18, hb⟩
      clear hc
      obtain ⟨hl_o, hm_o, hp_o, hB_o, y7_o, y9_o, y16_o⟩ := HP5.out
      have hl := hl_o.nxt hb
      have hm := hm_o.nxt hb
      have hp := hp_o.nxt hb
      have hB := bNext hB_o hb
      have y7 := bBlk hb (Array.getElem?_eq_some_iff.1 y7_o).1 y7_o
      have y9 := bBlk hb (Array.getElem?_eq_some_iff.1 y9_o).1 y9_o
      have y16 := bBlk hb (Array.getElem?_eq_some_iff.1 y16_o).1 y16_o
      clear hl_o hm_o hp_o hB_o y7_o y9_o y16_o HP5
      clear hb
      have HP6 := Lib.hid (And.intro hl (And.intro hm (And.intro hp (And.intro hB (And.intro y7 (And.intro y9 (And.intro y16 at18)))))))
      clear hl hm hp hB y7 y9 y16 at18
      go_upto_region 17 with (fail)
      have hc := HT.out.2.2.2.2.2.2 w18
      rw [HR.out.2 (by trivial), show erE false = 11 from rfl] at hc
      have yb := HP6.out.2.2.2.2.2.2.1
      refine wp_region_lit ?_
      refine wpList_load_row rfl 40 (.tmp 16) rfl _ rfl _ cr (0, 0) _ yb Try.underlying40 rfl hri ?_
      (try simp only [Act.put, List.setIfInBounds_toArray, List.set_cons_zero, List.set_cons_succ])
      clear yb
      go_wp2_with fail
      refine Calls.mono hc ?_
      rintro e w20 ⟨A20, n20, c20, rfl, at20, hb⟩
      clear hc
      obtain ⟨hl_o, hm_o, hp_o, hB_o, y7_o, y9_o, y16_o, at18_o⟩ := HP6.out
      have hl := hl_o.nxt hb
      have hm := hm_o.nxt hb
      have hp := hp_o.nxt hb
      have hB := bNext hB_o hb
      have y7 := bBlk hb (Array.getElem?_eq_some_iff.1 y7_o).1 y7_o
      have y9 := bBlk hb (Array.getElem?_eq_some_iff.1 y9_o).1 y9_o
      have y16 := bBlk hb (Array.getElem?_eq_some_iff.1 y16_o).1 y16_o
      have at18 := at18_o.nxt hb
      clear hl_o hm_o hp_o hB_o y7_o y9_o y16_o at18_o HP6
      clear hb
      have HP7 := Lib.hid (And.intro hl (And.intro hm (And.intro hp (And.intro hB (And.intro y7 (And.intro y9 (And.intro y16 (And.intro at18 at20))))))))
      clear hl hm hp hB y7 y9 y16 at18 at20
      go_upto_region 18 with (fail)
      have m18 : n18 ≤ 1000000 := by have h1 := HP7.out.2.2.2.2.2.2.2.1.len; have h2 := HP7.out.2.2.1.len; omega
      have hki := keepi_any _ HP7.out.2.2.2.2.2.2.2.1 HP7.out.2.2.1 (Nat.le_refl _) (Nat.le_refl _) m18
      rw [decide_eq_true rfl] at hki
      go_wp2_with (first
        | (go_at_call 35; go_loud (with_reducible refine Calls.mono hki ?_); clear hki; rintro e W8 ⟨rfl, hb8⟩)
        | (go_at_call 23; refine Calls.mono (wakes05_any _) ?_; rintro e W9 ⟨rfl, hb9⟩)
        | fail)
      go_ret
      exact Ret.mk rfl (bNext (bNext HP7.out.2.2.2.1 hb8) hb9)
  · rw [show erE true = 0 from rfl]
    have hn3 := HF.out.2.2.2.2.1 (by trivial)
    go_upto_region 6 with (fail)
    have hc := HT.out.2.2.2.1 Y9
    rw [(HF.out.1 (by trivial)).1, (HF.out.1 (by trivial)).2, show erE true = 0 from rfl] at hc
    have yb := HP3.out.2.2.2.2.1
    refine wp_region_lit ?_
    refine wpList_load_row rfl 40 (.tmp 7) rfl _ rfl _ cp (0, 0) _ yb Try.underlying40 rfl hpi ?_
    (try simp only [Act.put, List.setIfInBounds_toArray, List.set_cons_zero, List.set_cons_succ])
    clear yb
    go_wp2_with fail
    refine Calls.mono hc ?_
    rintro e w11 ⟨A11, n11, c11, rfl, at11, hb⟩
    clear hc
    obtain ⟨hl_o, hm_o, hp_o, hB_o, y7_o, y9_o⟩ := HP3.out
    have hl := hl_o.nxt hb
    have hm := hm_o.nxt hb
    have hp := hp_o.nxt hb
    have hB := bNext hB_o hb
    have y7 := bBlk hb (Array.getElem?_eq_some_iff.1 y7_o).1 y7_o
    have y9 := bBlk hb (Array.getElem?_eq_some_iff.1 y9_o).1 y9_o
    clear hl_o hm_o hp_o hB_o y7_o y9_o HP3
    clear hb
    have HP4 := Lib.hid (And.intro hl (And.intro hm (And.intro hp (And.intro hB (And.intro y7 (And.intro y9 at11))))))
    clear hl hm hp hB y7 y9 at11
    go_upto_region 7 with (fail)
    have hc := HT.out.2.2.2.2.1 w11
    rw [HF.out.2.1 (by trivial), show erE false = 11 from rfl] at hc
    have yb := HP4.out.2.2.2.2.1
    refine wp_region_lit ?_
    refine wpList_load_row rfl 40 (.tmp 7) rfl _ rfl _ cp (0, 0) _ yb Try.underlying40 rfl hpi ?_
    (try simp only [Act.put, List.setIfInBounds_toArray, List.set_cons_zero, List.set_cons_succ])
    clear yb
    go_wp2_with fail
    refine Calls.mono hc ?_
    rintro e w13 ⟨A13, n13, c13, rfl, at13, hb⟩
    clear hc
    obtain ⟨hl_o, hm_o, hp_o, hB_o, y7_o, y9_o, at11_o⟩ := HP4.out
    have hl := hl_o.nxt hb
    have hm := hm_o.nxt hb
    have hp := hp_o.nxt hb
    have hB := bNext hB_o hb
    have y7 := bBlk hb (Array.getElem?_eq_some_iff.1 y7_o).1 y7_o
    have y9 := bBlk hb (Array.getElem?_eq_some_iff.1 y9_o).1 y9_o
    have at11 := at11_o.nxt hb
    clear hl_o hm_o hp_o hB_o y7_o y9_o at11_o HP4
    clear hb
    have HP5 := Lib.hid (And.intro hl (And.intro hm (And.intro hp (And.intro hB (And.intro y7 (And.intro y9 (And.intro at11 at13)))))))
    clear hl hm hp hB y7 y9 at11 at13
    go_upto_region 8 with (fail)
    obtain ⟨M, hM⟩ : ∃ M, 2 + n * 36 = M := ⟨_, rfl⟩
    have hM110 : M ≤ 110 := by omega
    have x1 : IntKind.i64.wrap (36 * (n : Int)) = (M : Int) - 2 := by rw [wrap_small _ (by omega) (by omega)]; omega
    have x2 : IntKind.i64.wrap (2 + ((M : Int) - 2)) = (M : Int) := by rw [wrap_small _ (by omega) (by omega)]; omega
    have x3 : (0 : Int) ≤ (M : Int) := by omega
    have x4 : (M : Int) ≤ 128 := by omega
    have x5 : (M : Int) < 128 := by omega
    have htk := HF.out.2.2.1 (by trivial)
    have hmk := HF.out.2.2.2.1 (by trivial)
    have hBl := HF.out.2.2.2.2.2.2.1
    rw [hM] at htk hmk hBl
    have szp : cp.size = 128 := by rw [← HC.out.1, List.size_toArray, bvs_len, hPl]
    have z7 := HP5.out.2.2.2.2.1
    have hslx := take_row (by rw [HC.out.1]; exact z7 : w13.heap[w7.heap.size]? = some (.cells (bvs P).toArray 40)) (m := M) (by omega)
    rw [htk] at hslx
    have hck := check_any (l := lfB l) (c := 128) (by omega) w13 (Nat.le_refl _) (by rw [hBl]; exact hslx)
    rw [hBl, chk_first] at hck
    obtain ⟨F, hFe⟩ : ∃ q, chk (lfB l) = q := ⟨_, rfl⟩
    rw [hFe] at hck hmk hC4
    obtain ⟨cc, hcc⟩ : ∃ q, (bvs F).toArray = q := ⟨_, rfl⟩
    have hd4 := d4_info hC4
    have hd1 := all_oneCell_toArray (oneCell_bvs F)
    have hdz := d4Z
    have hds : (bvs (zs 4)).toArray.size = (bvs F).toArray.size := by rw [List.size_toArray, List.size_toArray, bvs_len, bvs_len, hC4]; rfl
    obtain ⟨z4, hz4⟩ : ∃ q, (bvs (zs 4)).toArray = q := ⟨_, rfl⟩
    rw [hz4] at hdz hds
    rw [hcc] at hd4 hd1 hds hck
    have HCC := Lib.hid (And.intro hcc (And.intro hmk (And.intro hM hFe)))
    clear htk hmk hBl hslx z7 hcc hz4 hFe hM
    go_wp2_with fail
    refine Calls.mono hck ?_
    rintro e w15 ⟨rfl, hb1⟩
    clear hck
    obtain ⟨Y15, hY15, y15, bY15⟩ := newRow w15 z4 cc 41
    have hb := hb1.trans (bY15.mono hb1.size)
    obtain ⟨hl_o, hm_o, hp_o, hB_o, y7_o, y9_o, at11_o, at13_o⟩ := HP5.out
    have hl := hl_o.nxt hb
    have hm := hm_o.nxt hb
    have hp := hp_o.nxt hb
    have hB := bNext hB_o hb
    have y7 := bBlk hb (Array.getElem?_eq_some_iff.1 y7_o).1 y7_o
    have y9 := bBlk hb (Array.getElem?_eq_some_iff.1 y9_o).1 y9_o
    have at11 := at11_o.nxt hb
    have at13 := at13_o.nxt hb
    clear hl_o hm_o hp_o hB_o y7_o y9_o at11_o at13_o HP5
    clear hb hb1 bY15
    have HP6 := Lib.hid (And.intro hl (And.intro hm (And.intro hp (And.intro hB (And.intro y7 (And.intro y9 (And.intro at11 (And.intro at13 y15))))))))
    clear hl hm hp hB y7 y9 at11 at13 y15
    go_upto_region 9 with (first
      | (refine wpList_new rfl hdz rfl ?_)
      | (refine wpList_store_row rfl 41 (.tmp 15) (.tmp 63) rfl _ cc rfl rfl _ z4 (heap_alloc_new _ _) hd4 hds hd1 ?_)
      | fail)
    try rw [hY15]
    clear hY15
    let S : World → Prop := fun w' => Below Y15.heap.size Y15 w'
    have hS0 : S Y15.drew := (Below.refl _ _).drew
    have z7 := HP6.out.2.2.2.2.1
    have z15 := HP6.out.2.2.2.2.2.2.2.2
    have m11 : n11 ≤ 1000000 := by have h1 := HP6.out.2.2.2.2.2.2.1.len; have h2 := HP6.out.1.len; omega
    have hke := fun W' (h : Below Y15.heap.size Y15 W') => keepe_any W' (HP6.out.2.2.2.2.2.2.1.nxt h) (HP6.out.1.nxt h) (Nat.le_refl _) (Nat.le_refl _) m11
    simp only [decide_true] at hke
    obtain ⟨B, hBe⟩ : ∃ q, (at8 P M).toNat = q := ⟨_, rfl⟩
    have k7 : Y15.cell? ⟨w7.heap.size, M, none⟩ = some (.int .u8 (B : Int)) := by
      rw [← hBe]
      refine blk_cell z7 ?_
      rw [← HC.out.1, List.getElem?_toArray]
      simp [bvs, bv, at8, List.getElem?_eq_getElem (show M < P.length by omega)]
    have k15 : Y15.cell? ⟨w15.heap.size, 0, none⟩ = some (.int .u8 (B : Int)) := by
      rw [← hBe, HCC.out.2.1]
      refine blk_cell z15 ?_
      rw [← HCC.out.1, List.getElem?_toArray]
      simp [bvs, bv, at8, List.getElem?_eq_getElem (show 0 < F.length by omega)]
    have l7 := (Array.getElem?_eq_some_iff.1 z7).1
    have l15 := (Array.getElem?_eq_some_iff.1 z15).1
    have r7 : ∀ w', S w' → w'.cell? ⟨w7.heap.size, M, none⟩ = some (.int .u8 (B : Int)) := fun w' h => (Below.cell (show Below Y15.heap.size Y15 w' from h) (p := ⟨w7.heap.size, M, none⟩) l7).trans k7
    have r15 : ∀ w', S w' → w'.cell? ⟨w15.heap.size, 0, none⟩ = some (.int .u8 (B : Int)) := fun w' h => (Below.cell (show Below Y15.heap.size Y15 w' from h) (p := ⟨w15.heap.size, 0, none⟩) l15).trans k15
    have szc : cc.size = 4 := by rw [← HCC.out.1, List.size_toArray, bvs_len, hC4]
    clear z7 z15 k7 k15 l7 l15 hBe m11
    refine wp_region_held (S := S) (by kernel_rfl) ?_
    change wpAnyH _ _ _ _ S _ _ _ Y15.drew
    change At 0 _
    iterate 9 (first | (apply tkA; (case hi => (simp only [List.getElem?_toArray, List.getElem?_cons_zero, List.getElem?_cons_succ]; rfl)); (case hw => rfl); (case hy => (intro w' hSw; (try simp only [S] at hSw); go_simp; (try with_reducible rfl))); (case hs => kernel_rfl); (case hf => kernel_rfl); (case hr => kernel_rfl); (case hQ => exact fun _ _ _ h => h); (case hS => assumption); (try simp only [Act.put, List.setIfInBounds_toArray, List.set_cons_zero, List.set_cons_succ, Nat.reduceAdd])) | (apply skA; (case hi => (simp only [List.getElem?_toArray, List.getElem?_cons_zero, List.getElem?_cons_succ]; rfl)); (case hw => rfl); (case hs => kernel_rfl); (case hf => kernel_rfl); (case hr => kernel_rfl); (case hQ => exact fun _ _ _ h => h); (case hS => assumption); (try simp only [Act.put, List.setIfInBounds_toArray, List.set_cons_zero, List.set_cons_succ, Nat.reduceAdd])))
    change wpAnyH _ _ _ _ _ _ _ _ _
    refine wpAnyH_ready (rs := [9]) (by kernel_rfl) (by simp) (AllReadyH.cons (o := ?oo9_8) ?hoo9_8 (fun K hK => ?steponly8) AllReadyH.nil); (case hoo9_8 => (simp only [List.getElem?_toArray, List.getElem?_cons_zero, List.getElem?_cons_succ]; rfl))
    go_simp
    refine Calls.mono (hke _ hS0) ?_
    rintro e x9 ⟨rfl, hb9⟩
    have hS1 : S x9 := (show Below _ _ Y15.drew from hS0).trans (hb9.mono (Nat.le_refl _))
    refine hK.out _ _ hS1 (fun _ => ?_)
    clear hK K
    (try simp only [Act.put, List.setIfInBounds_toArray, List.set_cons_zero, List.set_cons_succ])
    change At 10 _
    iterate 13 (first | (apply tkA; (case hi => (simp only [List.getElem?_toArray, List.getElem?_cons_zero, List.getElem?_cons_succ]; rfl)); (case hw => rfl); (case hy => (intro w' hSw; have q7 := r7 w' hSw; have q15 := r15 w' hSw; (try simp only [S] at hSw); go_simp; (try with_reducible rfl))); (case hs => kernel_rfl); (case hf => kernel_rfl); (case hr => kernel_rfl); (case hQ => exact fun _ _ _ h => h); (case hS => assumption); (try simp only [Act.put, List.setIfInBounds_toArray, List.set_cons_zero, List.set_cons_succ, Nat.reduceAdd])) | (apply skA; (case hi => (simp only [List.getElem?_toArray, List.getElem?_cons_zero, List.getElem?_cons_succ]; rfl)); (case hw => rfl); (case hs => kernel_rfl); (case hf => kernel_rfl); (case hr => kernel_rfl); (case hQ => exact fun _ _ _ h => h); (case hS => assumption); (try simp only [Act.put, List.setIfInBounds_toArray, List.set_cons_zero, List.set_cons_succ, Nat.reduceAdd])))
    change wpAnyH _ _ _ _ _ _ _ _ _
    refine wpAnyH_done (by kernel_rfl) ?_ _
    clear hS0
    have hS0 := hS1
    clear hS1 hb9 r7 r15 hke
    obtain ⟨x10, hx10⟩ : ∃ q, x9 = q := ⟨_, rfl⟩
    have hb : Below Y15.heap.size Y15 x10 := by rw [← hx10]; exact hS0
    rw [hx10]
    clear hx10 hS0
    obtain ⟨hl_o, hm_o, hp_o, hB_o, y7_o, y9_o, at11_o, at13_o, y15_o⟩ := HP6.out
    have hl := hl_o.nxt hb
    have hm := hm_o.nxt hb
    have hp := hp_o.nxt hb
    have hB := bNext hB_o hb
    have y7 := bBlk hb (Array.getElem?_eq_some_iff.1 y7_o).1 y7_o
    have y9 := bBlk hb (Array.getElem?_eq_some_iff.1 y9_o).1 y9_o
    have at11 := at11_o.nxt hb
    have at13 := at13_o.nxt hb
    have y15 := bBlk hb (Array.getElem?_eq_some_iff.1 y15_o).1 y15_o
    clear hl_o hm_o hp_o hB_o y7_o y9_o at11_o at13_o y15_o HP6
    clear hb
    have HP7 := Lib.hid (And.intro hl (And.intro hm (And.intro hp (And.intro hB (And.intro y7 (And.intro y9 (And.intro at11 (And.intro at13 y15))))))))
    clear hl hm hp hB y7 y9 at11 at13 y15
    clear x1 x2 x3 x4 x5
    cases G2
    · (try rw [show erE false = 11 from rfl])
      go_upto_region 11 with (fail)
      let S : World → Prop := fun w' => Below x10.heap.size x10 w'
      have hS0 : S x10.drew := (Below.refl _ _).drew
      refine wp_region_held (S := S) (by kernel_rfl) ?_
      change wpAnyH _ _ _ _ S _ _ _ x10.drew
      change At 0 _
      iterate 15 (first | (apply tkA; (case hi => (simp only [List.getElem?_toArray, List.getElem?_cons_zero, List.getElem?_cons_succ]; rfl)); (case hw => rfl); (case hy => (intro w' hSw; (try simp only [S] at hSw); go_simp; (try with_reducible rfl))); (case hs => kernel_rfl); (case hf => kernel_rfl); (case hr => kernel_rfl); (case hQ => exact fun _ _ _ h => h); (case hS => assumption); (try simp only [Act.put, List.setIfInBounds_toArray, List.set_cons_zero, List.set_cons_succ, Nat.reduceAdd])) | (apply skA; (case hi => (simp only [List.getElem?_toArray, List.getElem?_cons_zero, List.getElem?_cons_succ]; rfl)); (case hw => rfl); (case hs => kernel_rfl); (case hf => kernel_rfl); (case hr => kernel_rfl); (case hQ => exact fun _ _ _ h => h); (case hS => assumption); (try simp only [Act.put, List.setIfInBounds_toArray, List.set_cons_zero, List.set_cons_succ, Nat.reduceAdd])))
      change wpAnyH _ _ _ _ _ _ _ _ _
      refine wpAnyH_done (by kernel_rfl) ?_ _
      obtain ⟨x11, hx11⟩ : ∃ q, x10.drew = q := ⟨_, rfl⟩
      have hb : Below x10.heap.size x10 x11 := by rw [← hx11]; exact hS0
      rw [hx11]
      clear hx11 hS0
      obtain ⟨hl_o, hm_o, hp_o, hB_o, y7_o, y9_o, at11_o, at13_o, y15_o⟩ := HP7.out
      have hl := hl_o.nxt hb
      have hm := hm_o.nxt hb
      have hp := hp_o.nxt hb
      have hB := bNext hB_o hb
      have y7 := bBlk hb (Array.getElem?_eq_some_iff.1 y7_o).1 y7_o
      have y9 := bBlk hb (Array.getElem?_eq_some_iff.1 y9_o).1 y9_o
      have at11 := at11_o.nxt hb
      have at13 := at13_o.nxt hb
      have y15 := bBlk hb (Array.getElem?_eq_some_iff.1 y15_o).1 y15_o
      clear hl_o hm_o hp_o hB_o y7_o y9_o at11_o at13_o y15_o HP7
      clear hb
      have HP8 := Lib.hid (And.intro hl (And.intro hm (And.intro hp (And.intro hB (And.intro y7 (And.intro y9 (And.intro at11 (And.intro at13 y15))))))))
      clear hl hm hp hB y7 y9 at11 at13 y15
      go_upto_region 13 with (fail)
      have hc := HT.out.2.2.1 _ HP8.out.2.2.1
      go_wp2_with fail
      refine Calls.mono hc ?_
      rintro e w16 ⟨rfl, hb1⟩
      obtain ⟨Y16, hY16, y16, bY16⟩ := newRow w16 zb cr 40
      have hb := hb1.trans (bY16.mono hb1.size)
      obtain ⟨hl_o, hm_o, hp_o, hB_o, y7_o, y9_o, at11_o, at13_o, y15_o⟩ := HP8.out
      have hl := hl_o.nxt hb
      have hm := hm_o.nxt hb
      have hp := hp_o.nxt hb
      have hB := bNext hB_o hb
      have y7 := bBlk hb (Array.getElem?_eq_some_iff.1 y7_o).1 y7_o
      have y9 := bBlk hb (Array.getElem?_eq_some_iff.1 y9_o).1 y9_o
      have at11 := at11_o.nxt hb
      have at13 := at13_o.nxt hb
      have y15 := bBlk hb (Array.getElem?_eq_some_iff.1 y15_o).1 y15_o
      clear hl_o hm_o hp_o hB_o y7_o y9_o at11_o at13_o y15_o HP8
      clear hb hb1 bY16 hc
      have HP9 := Lib.hid (And.intro hl (And.intro hm (And.intro hp (And.intro hB (And.intro y7 (And.intro y9 (And.intro at11 (And.intro at13 (And.intro y15 y16)))))))))
      clear hl hm hp hB y7 y9 at11 at13 y15 y16
      go_upto_region 14 with (first
        | (refine wpList_new rfl hbz rfl ?_)
        | (refine wpList_store_row rfl 40 (.tmp 16) (.tmp 105) rfl _ cr rfl rfl _ zb (heap_alloc_new _ _) hri hrs hr1 ?_)
        | fail)
      try rw [hY16]
      clear hY16
      cases GR
      · rw [show erE false = 11 from rfl]
        have hcz : cr = zb := by rw [← HC.out.2.2.1, HC.out.2.2.2.2 (by trivial), HC.out.2.2.2.1]
        have z16 := HP9.out.2.2.2.2.2.2.2.2.2
        rw [hcz] at z16 hri
        have hze := HQ.out.2
        clear hcz
        go_wp2_with (first
          | (refine wpList_load_row_g (by simp [Region.wanted, yielded, Act.put]) 40 (.tmp 16) rfl _ rfl _ zb (0, 0) _ z16 Try.underlying40 rfl hri ?_)
          | (refine wpList_built_g (by simp [Region.wanted, yielded, Act.put]) 40 #[] rfl (cs := zb) (by simp only [List.map_toArray, List.map_nil]; exact hb0) ?_)
          | (go_at_call 23; refine Calls.mono (wakes05_any _) ?_; rintro e W9 ⟨rfl, hb9⟩)
          | fail)
        go_ret
        exact Ret.mk rfl (bNext HP9.out.2.2.2.1 hb9)
      · rw [show erE true = 0 from rfl]
        go_upto_region 16 with (fail)
        have hc := HT.out.2.2.2.2.2.1 Y16
        rw [(HR.out.1 (by trivial)).1, (HR.out.1 (by trivial)).2, show erE true = 0 from rfl] at hc
        have yb := HP9.out.2.2.2.2.2.2.2.2.2
        refine wp_region_lit ?_
        refine wpList_load_row rfl 40 (.tmp 16) rfl _ rfl _ cr (0, 0) _ yb Try.underlying40 rfl hri ?_
        (try simp only [Act.put, List.setIfInBounds_toArray, List.set_cons_zero, List.set_cons_succ])
        clear yb
        go_wp2_with fail
        refine Calls.mono hc ?_
        rintro e w18 ⟨A18, n18, c18, rfl, at18, hb⟩
        clear hc
        obtain ⟨hl_o, hm_o, hp_o, hB_o, y7_o, y9_o, at11_o, at13_o, y15_o, y16_o⟩ := HP9.out
        have hl := hl_o.nxt hb
        have hm := hm_o.nxt hb
        have hp := hp_o.nxt hb
        have hB := bNext hB_o hb
        have y7 := bBlk hb (Array.getElem?_eq_some_iff.1 y7_o).1 y7_o
        have y9 := bBlk hb (Array.getElem?_eq_some_iff.1 y9_o).1 y9_o
        have at11 := at11_o.nxt hb
        have at13 := at13_o.nxt hb
        have y15 := bBlk hb (Array.getElem?_eq_some_iff.1 y15_o).1 y15_o
        have y16 := bBlk hb (Array.getElem?_eq_some_iff.1 y16_o).1 y16_o
        clear hl_o hm_o hp_o hB_o y7_o y9_o at11_o at13_o y15_o y16_o HP9
        clear hb
        have HP10 := Lib.hid (And.intro hl (And.intro hm (And.intro hp (And.intro hB (And.intro y7 (And.intro y9 (And.intro at11 (And.intro at13 (And.intro y15 (And.intro y16 at18))))))))))
        clear hl hm hp hB y7 y9 at11 at13 y15 y16 at18
        go_upto_region 17 with (fail)
        have hc := HT.out.2.2.2.2.2.2 w18
        rw [HR.out.2 (by trivial), show erE false = 11 from rfl] at hc
        have yb := HP10.out.2.2.2.2.2.2.2.2.2.1
        refine wp_region_lit ?_
        refine wpList_load_row rfl 40 (.tmp 16) rfl _ rfl _ cr (0, 0) _ yb Try.underlying40 rfl hri ?_
        (try simp only [Act.put, List.setIfInBounds_toArray, List.set_cons_zero, List.set_cons_succ])
        clear yb
        go_wp2_with fail
        refine Calls.mono hc ?_
        rintro e w20 ⟨A20, n20, c20, rfl, at20, hb⟩
        clear hc
        obtain ⟨hl_o, hm_o, hp_o, hB_o, y7_o, y9_o, at11_o, at13_o, y15_o, y16_o, at18_o⟩ := HP10.out
        have hl := hl_o.nxt hb
        have hm := hm_o.nxt hb
        have hp := hp_o.nxt hb
        have hB := bNext hB_o hb
        have y7 := bBlk hb (Array.getElem?_eq_some_iff.1 y7_o).1 y7_o
        have y9 := bBlk hb (Array.getElem?_eq_some_iff.1 y9_o).1 y9_o
        have at11 := at11_o.nxt hb
        have at13 := at13_o.nxt hb
        have y15 := bBlk hb (Array.getElem?_eq_some_iff.1 y15_o).1 y15_o
        have y16 := bBlk hb (Array.getElem?_eq_some_iff.1 y16_o).1 y16_o
        have at18 := at18_o.nxt hb
        clear hl_o hm_o hp_o hB_o y7_o y9_o at11_o at13_o y15_o y16_o at18_o HP10
        clear hb
        have HP11 := Lib.hid (And.intro hl (And.intro hm (And.intro hp (And.intro hB (And.intro y7 (And.intro y9 (And.intro at11 (And.intro at13 (And.intro y15 (And.intro y16 (And.intro at18 at20)))))))))))
        clear hl hm hp hB y7 y9 at11 at13 y15 y16 at18 at20
        go_upto_region 18 with (fail)
        have m18 : n18 ≤ 1000000 := by have h1 := HP11.out.2.2.2.2.2.2.2.2.2.2.1.len; have h2 := HP11.out.2.2.1.len; omega
        have hki := keepi_any _ HP11.out.2.2.2.2.2.2.2.2.2.2.1 HP11.out.2.2.1 (Nat.le_refl _) (Nat.le_refl _) m18
        rw [decide_eq_true rfl] at hki
        go_wp2_with (first
          | (go_at_call 35; go_loud (with_reducible refine Calls.mono hki ?_); clear hki; rintro e W8 ⟨rfl, hb8⟩)
          | (go_at_call 23; refine Calls.mono (wakes05_any _) ?_; rintro e W9 ⟨rfl, hb9⟩)
          | fail)
        go_ret
        exact Ret.mk rfl (bNext (bNext HP11.out.2.2.2.1 hb8) hb9)
    · (try rw [show erE true = 0 from rfl])
      go_upto_region 11 with (fail)
      let S : World → Prop := fun w' => Below x10.heap.size x10 w'
      have hS0 : S x10.drew := (Below.refl _ _).drew
      have z7 := HP7.out.2.2.2.2.1
      have z9 := HP7.out.2.2.2.2.2.1
      have hqe := HQ.out.1
      have r7 : ∀ w', S w' → w'.rangeAt w7.heap.size 0 (bvs P) := fun w' h => bRange h (Array.getElem?_eq_some_iff.1 z7).1 (range_blk (by rw [HC.out.1]; exact z7))
      have r9 : ∀ w', S w' → w'.rangeAt w9.heap.size 0 (bvs P2) := fun w' h => bRange h (Array.getElem?_eq_some_iff.1 z9).1 (range_blk (by rw [HC.out.2.1]; exact z9))
      have hij := HF.out.2.2.2.2.2.1 (by trivial) (by trivial)
      obtain ⟨q, hqq⟩ : ∃ q, (P == P2) = q := ⟨_, rfl⟩
      simp only [hqq] at hqe
      rw [hqq] at hij
      have hke := fun W' (h : Below x10.heap.size x10 W') => keepe_any W' (HP7.out.1.nxt h) (HP7.out.2.1.nxt h) (Nat.le_refl _) (Nat.le_refl _) (by omega)
      simp only [← hij] at hke
      clear z7 z9 hij hqq
      refine wp_region_held (S := S) (by kernel_rfl) ?_
      change wpAnyH _ _ _ _ S _ _ _ x10.drew
      change At 0 _
      iterate 7 (first | (apply tkA; (case hi => (simp only [List.getElem?_toArray, List.getElem?_cons_zero, List.getElem?_cons_succ]; rfl)); (case hw => rfl); (case hy => (intro w' hSw; (try simp only [S] at hSw); go_simp; (try with_reducible rfl))); (case hs => kernel_rfl); (case hf => kernel_rfl); (case hr => kernel_rfl); (case hQ => exact fun _ _ _ h => h); (case hS => assumption); (try simp only [Act.put, List.setIfInBounds_toArray, List.set_cons_zero, List.set_cons_succ, Nat.reduceAdd])) | (apply skA; (case hi => (simp only [List.getElem?_toArray, List.getElem?_cons_zero, List.getElem?_cons_succ]; rfl)); (case hw => rfl); (case hs => kernel_rfl); (case hf => kernel_rfl); (case hr => kernel_rfl); (case hQ => exact fun _ _ _ h => h); (case hS => assumption); (try simp only [Act.put, List.setIfInBounds_toArray, List.set_cons_zero, List.set_cons_succ, Nat.reduceAdd])))
      change wpAnyH _ _ _ _ _ _ _ _ _
      refine wpAnyH_take (i := 7) (oi := ?oi_6) (v := ?v_6) ?ho_6 ?h1_6 ?h2_6 ?h3_6 ?hq_6 (Or.inl ⟨?hw_6, ?hy_6⟩) ?hs_6 ?rest_6; (case h2_6 => kernel_rfl); (case h3_6 => kernel_rfl); (case ho_6 => (simp only [List.getElem?_toArray, List.getElem?_cons_zero, List.getElem?_cons_succ]; rfl)); (case h1_6 => kernel_rfl); (case hq_6 => exact fun _ _ _ h => h); (case hw_6 => rfl); (case hy_6 => (intro w' hSw; have hh := r7 w' hSw; rw [show bvs P = bvs P from rfl] at hh; refine exec_load_row (x := .tmp 7) ?_ ?_ hh Try.underlying40 ?_ hpli <;> rfl)); (case hs_6 => assumption); (try simp only [Act.put, List.setIfInBounds_toArray, List.set_cons_zero, List.set_cons_succ])
      refine wpAnyH_take (i := 8) (oi := ?oi_7) (v := ?v_7) ?ho_7 ?h1_7 ?h2_7 ?h3_7 ?hq_7 (Or.inl ⟨?hw_7, ?hy_7⟩) ?hs_7 ?rest_7; (case h2_7 => kernel_rfl); (case h3_7 => kernel_rfl); (case ho_7 => (simp only [List.getElem?_toArray, List.getElem?_cons_zero, List.getElem?_cons_succ]; rfl)); (case h1_7 => kernel_rfl); (case hq_7 => exact fun _ _ _ h => h); (case hw_7 => rfl); (case hy_7 => (intro w' hSw; refine exec_load_row (x := .tmp 9) ?_ ?_ (r9 w' hSw) Try.underlying40 ?_ hqli <;> rfl)); (case hs_7 => assumption); (try simp only [Act.put, List.setIfInBounds_toArray, List.set_cons_zero, List.set_cons_succ])
      rw [HC.out.1, HC.out.2.1]
      refine wpAnyH_take (i := 9) (oi := ?oi_1) (v := ?v_1) ?ho_1 ?h1_1 ?h2_1 ?h3_1 ?hq_1 (Or.inl ⟨?hw_1, ?hy_1⟩) ?hs_1 ?rest_1; (case h2_1 => kernel_rfl); (case h3_1 => kernel_rfl); (case ho_1 => (simp only [List.getElem?_toArray, List.getElem?_cons_zero, List.getElem?_cons_succ]; rfl)); (case h1_1 => kernel_rfl); (case hq_1 => exact fun _ _ _ h => h); (case hw_1 => rfl); (case hy_1 => (intro w' hSw; (try simp only [S] at hSw); go_simp; (try with_reducible rfl))); (case hs_1 => assumption); (try simp only [Act.put, List.setIfInBounds_toArray, List.set_cons_zero, List.set_cons_succ])
      refine wpAnyH_take (i := 10) (oi := ?oi_2) (v := ?v_2) ?ho_2 ?h1_2 ?h2_2 ?h3_2 ?hq_2 (Or.inl ⟨?hw_2, ?hy_2⟩) ?hs_2 ?rest_2; (case h2_2 => kernel_rfl); (case h3_2 => kernel_rfl); (case ho_2 => (simp only [List.getElem?_toArray, List.getElem?_cons_zero, List.getElem?_cons_succ]; rfl)); (case h1_2 => kernel_rfl); (case hq_2 => exact fun _ _ _ h => h); (case hw_2 => rfl); (case hy_2 => (intro w' hSw; (try simp only [S] at hSw); go_simp; (try with_reducible rfl))); (case hs_2 => assumption); (try simp only [Act.put, List.setIfInBounds_toArray, List.set_cons_zero, List.set_cons_succ])
      refine wpAnyH_take (i := 11) (oi := ?oi_3) (v := ?v_3) ?ho_3 ?h1_3 ?h2_3 ?h3_3 ?hq_3 (Or.inl ⟨?hw_3, ?hy_3⟩) ?hs_3 ?rest_3; (case h2_3 => kernel_rfl); (case h3_3 => kernel_rfl); (case ho_3 => (simp only [List.getElem?_toArray, List.getElem?_cons_zero, List.getElem?_cons_succ]; rfl)); (case h1_3 => kernel_rfl); (case hq_3 => exact fun _ _ _ h => h); (case hw_3 => rfl); (case hy_3 => (intro w' hSw; (try simp only [S] at hSw); go_simp; (try with_reducible rfl))); (case hs_3 => assumption); (try simp only [Act.put, List.setIfInBounds_toArray, List.set_cons_zero, List.set_cons_succ])
      refine wpAnyH_ready (rs := [12]) (by kernel_rfl) (by simp) (AllReadyH.cons (o := ?oo12_9) ?hoo12_9 (fun K hK => ?steponly9) AllReadyH.nil); (case hoo12_9 => (simp only [List.getElem?_toArray, List.getElem?_cons_zero, List.getElem?_cons_succ]; rfl))
      go_simp
      refine Calls.mono (hke _ hS0) ?_
      rintro e x12 ⟨rfl, hb12⟩
      have hS1 : S x12 := (show Below _ _ x10.drew from hS0).trans (hb12.mono (Nat.le_refl _))
      refine hK.out _ _ hS1 (fun _ => ?_)
      clear hK K
      (try simp only [Act.put, List.setIfInBounds_toArray, List.set_cons_zero, List.set_cons_succ])
      refine wpAnyH_take (i := 13) (oi := ?oi_4) (v := ?v_4) ?ho_4 ?h1_4 ?h2_4 ?h3_4 ?hq_4 (Or.inl ⟨?hw_4, ?hy_4⟩) ?hs_4 ?rest_4; (case h2_4 => kernel_rfl); (case h3_4 => kernel_rfl); (case ho_4 => (simp only [List.getElem?_toArray, List.getElem?_cons_zero, List.getElem?_cons_succ]; rfl)); (case h1_4 => kernel_rfl); (case hq_4 => exact fun _ _ _ h => h); (case hw_4 => rfl); (case hy_4 => (intro w' hSw; (try simp only [S] at hSw); go_simp; (try with_reducible rfl))); (case hs_4 => assumption); (try simp only [Act.put, List.setIfInBounds_toArray, List.set_cons_zero, List.set_cons_succ])
      (try rw [bne_self_eq_false])
      refine wpAnyH_take (i := 14) (oi := ?oi_5) (v := ?v_5) ?ho_5 ?h1_5 ?h2_5 ?h3_5 ?hq_5 (Or.inl ⟨?hw_5, ?hy_5⟩) ?hs_5 ?rest_5; (case h2_5 => kernel_rfl); (case h3_5 => kernel_rfl); (case ho_5 => (simp only [List.getElem?_toArray, List.getElem?_cons_zero, List.getElem?_cons_succ]; rfl)); (case h1_5 => kernel_rfl); (case hq_5 => exact fun _ _ _ h => h); (case hw_5 => rfl); (case hy_5 => (intro w' hSw; (try simp only [S] at hSw); go_simp; (try with_reducible rfl))); (case hs_5 => assumption); (try simp only [Act.put, List.setIfInBounds_toArray, List.set_cons_zero, List.set_cons_succ])
      refine wpAnyH_done (by kernel_rfl) ?_ _
      clear hS0
      have hS0 := hS1
      clear hS1 hb12 r7 r9 hqe hke
      obtain ⟨x11, hx11⟩ : ∃ q, x12 = q := ⟨_, rfl⟩
      have hb : Below x10.heap.size x10 x11 := by rw [← hx11]; exact hS0
      rw [hx11]
      clear hx11 hS0
      obtain ⟨hl_o, hm_o, hp_o, hB_o, y7_o, y9_o, at11_o, at13_o, y15_o⟩ := HP7.out
      have hl := hl_o.nxt hb
      have hm := hm_o.nxt hb
      have hp := hp_o.nxt hb
      have hB := bNext hB_o hb
      have y7 := bBlk hb (Array.getElem?_eq_some_iff.1 y7_o).1 y7_o
      have y9 := bBlk hb (Array.getElem?_eq_some_iff.1 y9_o).1 y9_o
      have at11 := at11_o.nxt hb
      have at13 := at13_o.nxt hb
      have y15 := bBlk hb (Array.getElem?_eq_some_iff.1 y15_o).1 y15_o
      clear hl_o hm_o hp_o hB_o y7_o y9_o at11_o at13_o y15_o HP7
      clear hb
      have HP8 := Lib.hid (And.intro hl (And.intro hm (And.intro hp (And.intro hB (And.intro y7 (And.intro y9 (And.intro at11 (And.intro at13 y15))))))))
      clear hl hm hp hB y7 y9 at11 at13 y15
      go_upto_region 13 with (fail)
      have hc := HT.out.2.2.1 _ HP8.out.2.2.1
      go_wp2_with fail
      refine Calls.mono hc ?_
      rintro e w16 ⟨rfl, hb1⟩
      obtain ⟨Y16, hY16, y16, bY16⟩ := newRow w16 zb cr 40
      have hb := hb1.trans (bY16.mono hb1.size)
      obtain ⟨hl_o, hm_o, hp_o, hB_o, y7_o, y9_o, at11_o, at13_o, y15_o⟩ := HP8.out
      have hl := hl_o.nxt hb
      have hm := hm_o.nxt hb
      have hp := hp_o.nxt hb
      have hB := bNext hB_o hb
      have y7 := bBlk hb (Array.getElem?_eq_some_iff.1 y7_o).1 y7_o
      have y9 := bBlk hb (Array.getElem?_eq_some_iff.1 y9_o).1 y9_o
      have at11 := at11_o.nxt hb
      have at13 := at13_o.nxt hb
      have y15 := bBlk hb (Array.getElem?_eq_some_iff.1 y15_o).1 y15_o
      clear hl_o hm_o hp_o hB_o y7_o y9_o at11_o at13_o y15_o HP8
      clear hb hb1 bY16 hc
      have HP9 := Lib.hid (And.intro hl (And.intro hm (And.intro hp (And.intro hB (And.intro y7 (And.intro y9 (And.intro at11 (And.intro at13 (And.intro y15 y16)))))))))
      clear hl hm hp hB y7 y9 at11 at13 y15 y16
      go_upto_region 14 with (first
        | (refine wpList_new rfl hbz rfl ?_)
        | (refine wpList_store_row rfl 40 (.tmp 16) (.tmp 105) rfl _ cr rfl rfl _ zb (heap_alloc_new _ _) hri hrs hr1 ?_)
        | fail)
      try rw [hY16]
      clear hY16
      cases GR
      · rw [show erE false = 11 from rfl]
        have hcz : cr = zb := by rw [← HC.out.2.2.1, HC.out.2.2.2.2 (by trivial), HC.out.2.2.2.1]
        have z16 := HP9.out.2.2.2.2.2.2.2.2.2
        rw [hcz] at z16 hri
        have hze := HQ.out.2
        clear hcz
        go_wp2_with (first
          | (refine wpList_load_row_g (by simp [Region.wanted, yielded, Act.put]) 40 (.tmp 16) rfl _ rfl _ zb (0, 0) _ z16 Try.underlying40 rfl hri ?_)
          | (refine wpList_built_g (by simp [Region.wanted, yielded, Act.put]) 40 #[] rfl (cs := zb) (by simp only [List.map_toArray, List.map_nil]; exact hb0) ?_)
          | (go_at_call 23; refine Calls.mono (wakes05_any _) ?_; rintro e W9 ⟨rfl, hb9⟩)
          | fail)
        go_ret
        exact Ret.mk rfl (bNext HP9.out.2.2.2.1 hb9)
      · rw [show erE true = 0 from rfl]
        go_upto_region 16 with (fail)
        have hc := HT.out.2.2.2.2.2.1 Y16
        rw [(HR.out.1 (by trivial)).1, (HR.out.1 (by trivial)).2, show erE true = 0 from rfl] at hc
        have yb := HP9.out.2.2.2.2.2.2.2.2.2
        refine wp_region_lit ?_
        refine wpList_load_row rfl 40 (.tmp 16) rfl _ rfl _ cr (0, 0) _ yb Try.underlying40 rfl hri ?_
        (try simp only [Act.put, List.setIfInBounds_toArray, List.set_cons_zero, List.set_cons_succ])
        clear yb
        go_wp2_with fail
        refine Calls.mono hc ?_
        rintro e w18 ⟨A18, n18, c18, rfl, at18, hb⟩
        clear hc
        obtain ⟨hl_o, hm_o, hp_o, hB_o, y7_o, y9_o, at11_o, at13_o, y15_o, y16_o⟩ := HP9.out
        have hl := hl_o.nxt hb
        have hm := hm_o.nxt hb
        have hp := hp_o.nxt hb
        have hB := bNext hB_o hb
        have y7 := bBlk hb (Array.getElem?_eq_some_iff.1 y7_o).1 y7_o
        have y9 := bBlk hb (Array.getElem?_eq_some_iff.1 y9_o).1 y9_o
        have at11 := at11_o.nxt hb
        have at13 := at13_o.nxt hb
        have y15 := bBlk hb (Array.getElem?_eq_some_iff.1 y15_o).1 y15_o
        have y16 := bBlk hb (Array.getElem?_eq_some_iff.1 y16_o).1 y16_o
        clear hl_o hm_o hp_o hB_o y7_o y9_o at11_o at13_o y15_o y16_o HP9
        clear hb
        have HP10 := Lib.hid (And.intro hl (And.intro hm (And.intro hp (And.intro hB (And.intro y7 (And.intro y9 (And.intro at11 (And.intro at13 (And.intro y15 (And.intro y16 at18))))))))))
        clear hl hm hp hB y7 y9 at11 at13 y15 y16 at18
        go_upto_region 17 with (fail)
        have hc := HT.out.2.2.2.2.2.2 w18
        rw [HR.out.2 (by trivial), show erE false = 11 from rfl] at hc
        have yb := HP10.out.2.2.2.2.2.2.2.2.2.1
        refine wp_region_lit ?_
        refine wpList_load_row rfl 40 (.tmp 16) rfl _ rfl _ cr (0, 0) _ yb Try.underlying40 rfl hri ?_
        (try simp only [Act.put, List.setIfInBounds_toArray, List.set_cons_zero, List.set_cons_succ])
        clear yb
        go_wp2_with fail
        refine Calls.mono hc ?_
        rintro e w20 ⟨A20, n20, c20, rfl, at20, hb⟩
        clear hc
        obtain ⟨hl_o, hm_o, hp_o, hB_o, y7_o, y9_o, at11_o, at13_o, y15_o, y16_o, at18_o⟩ := HP10.out
        have hl := hl_o.nxt hb
        have hm := hm_o.nxt hb
        have hp := hp_o.nxt hb
        have hB := bNext hB_o hb
        have y7 := bBlk hb (Array.getElem?_eq_some_iff.1 y7_o).1 y7_o
        have y9 := bBlk hb (Array.getElem?_eq_some_iff.1 y9_o).1 y9_o
        have at11 := at11_o.nxt hb
        have at13 := at13_o.nxt hb
        have y15 := bBlk hb (Array.getElem?_eq_some_iff.1 y15_o).1 y15_o
        have y16 := bBlk hb (Array.getElem?_eq_some_iff.1 y16_o).1 y16_o
        have at18 := at18_o.nxt hb
        clear hl_o hm_o hp_o hB_o y7_o y9_o at11_o at13_o y15_o y16_o at18_o HP10
        clear hb
        have HP11 := Lib.hid (And.intro hl (And.intro hm (And.intro hp (And.intro hB (And.intro y7 (And.intro y9 (And.intro at11 (And.intro at13 (And.intro y15 (And.intro y16 (And.intro at18 at20)))))))))))
        clear hl hm hp hB y7 y9 at11 at13 y15 y16 at18 at20
        go_upto_region 18 with (fail)
        have m18 : n18 ≤ 1000000 := by have h1 := HP11.out.2.2.2.2.2.2.2.2.2.2.1.len; have h2 := HP11.out.2.2.1.len; omega
        have hki := keepi_any _ HP11.out.2.2.2.2.2.2.2.2.2.2.1 HP11.out.2.2.1 (Nat.le_refl _) (Nat.le_refl _) m18
        rw [decide_eq_true rfl] at hki
        go_wp2_with (first
          | (go_at_call 35; go_loud (with_reducible refine Calls.mono hki ?_); clear hki; rintro e W8 ⟨rfl, hb8⟩)
          | (go_at_call 23; refine Calls.mono (wakes05_any _) ?_; rintro e W9 ⟨rfl, hb9⟩)
          | fail)
        go_ret
        exact Ret.mk rfl (bNext (bNext HP11.out.2.2.2.1 hb8) hb9)
set_option maxRecDepth 100000 in
theorem leafBack_walk {H : Type} {enc : TypeId × Value → H} {W : World} {base : Nat} {v0 v1 v2 : Value} {d0 d1 d2 : DataW H} {p0 p1 p2 : List MemPlace}
    (k0 : Value.okWide Try.prog W .any base 49 v0) (h0 : DataW.Trod enc Try.prog W 0 (fun _ => true) true 49 v0 d0 p0)
    (k1 : Value.okWide Try.prog W .any base 49 v1) (h1 : DataW.Trod enc Try.prog W 0 (fun _ => true) true 49 v1 d1 p1)
    (k2 : Value.okWide Try.prog W .any base 50 v2) (h2 : DataW.Trod enc Try.prog W 0 (fun _ => true) true 50 v2 d2 p2)
    : Calls Try.prog 9 #[v0, v1, v2] W fun e W' => e = .returned (.bool true) ∧ Below W.heap.size W W' := by
  obtain ⟨A, n, c, l, rfl, hl, -⟩ := open_entries k0 h0
  obtain ⟨A', m, c', lm, rfl, hm, -⟩ := open_entries k1 h1
  obtain ⟨A2, p, c2, ps, rfl, hp, -⟩ := open_places k2 h2
  by_cases h : 20 < n
  · exact big_back W (.inl h)
  · by_cases h' : 20 < m
    · exact big_back W (.inr (.inl ⟨h, h'⟩))
    · by_cases h2 : 300 < p
      · exact big_back W (.inr (.inr ⟨h, h', h2⟩))
      · exact back_core W hl hm hp (by omega) (by omega) (by omega)
end Go.Proofs.Ythmjkgpfnpdddaa
