/- The walk over LeafPlaces. (s7/lfplaces.py writes it.) -/
import Derived.Test.YthmjkgpfnpdddaaLfWakes
import Derived.Test.YthmjkgpfnpdddaaLfArg
import Derived.Test.YthmjkgpfnpdddaaAuto
namespace Go.Proofs.Ythmjkgpfnpdddaa
set_option linter.unusedSimpArgs false
set_option linter.unusedVariables false
open Go.RowKit Go.ChangeShapes Go.WideShapes Go.Sort

theorem wpList_built_g {P : Program} {ops : Array Oper} {rest : List Oper} {o : Oper} {a : Act} {w : World} {Q : Exit → Act → World → Prop} (hw : Region.wanted o (yielded ops a.tmps) = true) (t : TypeId) (parts : Array (Nat × Operand)) (ho : o.op = .build t parts) {cs : Array Value}
    (hf : P.built t (parts.map fun (i, x) => (i, a.eval x)).toList = some cs) (h : wpList P ops Q rest (a.put o.dst (.agg cs)) w) : wpList P ops Q (o :: rest) a w :=
  wpList_step fun _ hK => by rw [if_pos hw]; exact wp_built t parts ho hf (hK _ _ h)
/-- a part of a block in memory -/
theorem part_row {w : World} {g : Nat} {b : Blk} {t : TypeId} (h : w.heap[g]? = some (.cells (bvs b).toArray t)) (i m : Nat) (hm : i + m ≤ b.length) : Sl w w.heap.size 1 (some ⟨g, i, none⟩) m (bvs ((b.drop i).take m)) := by
  refine ⟨by rw [bvs_len, List.length_take, List.length_drop, Nat.min_eq_left (by omega), Nat.mul_one], fun _ => ⟨g, i, rfl, (Array.getElem?_eq_some_iff.1 h).1, fun j v hj => ?_⟩⟩
  refine blk_cell h ?_
  rw [List.getElem?_toArray]
  rw [bvs, List.map_take, List.map_drop, List.getElem?_take] at hj
  split at hj
  · rw [List.getElem?_drop] at hj
    exact hj
  · cases hj
theorem row_cell {w : World} {g : Nat} {b : Blk} {t : TypeId} (h : w.heap[g]? = some (.cells (bvs b).toArray t)) {i : Nat} (hi : i < b.length) : w.cell? ⟨g, i, none⟩ = some (.int .u8 ((at8 b i).toNat : Int)) := by
  refine blk_cell h ?_
  rw [List.getElem?_toArray]
  simp [bvs, bv, at8, List.getElem?_eq_getElem hi]
theorem lf_one {l : List EN} (hok : ∀ x ∈ l, x.Ok) (h : goodE l = true) {k : Nat} {x : EN} (hx : l[k]? = some x) : enAt (lfEnc l) (2 + k * 36) = x := by
  have e := enL_enc hok h
  have hk := (List.getElem?_eq_some_iff.1 hx).1
  have h1 : (enL (lfEnc l) l.length)[k]? = some x := by rw [e]; exact hx
  unfold enL at h1
  rw [List.getElem?_map, List.getElem?_range hk] at h1
  simpa using h1
theorem lf_zero {l : List EN} (hok : ∀ x ∈ l, x.Ok) (h : goodE l = true) {i : Nat} (hi : 6 + l.length * 36 ≤ i) : at8 (lfEnc l) i = 0 := by
  unfold lfEnc
  rw [if_pos h]
  exact seal_zero (by rw [lfB_len hok]; omega)
theorem lf_top {l : List EN} (hok : ∀ x ∈ l, x.Ok) (h : goodE l = true) : at8 (lfEnc l) 0 = 76 ∧ (at8 (lfEnc l) 1).toNat = l.length := by
  refine ⟨isLf_first (lf_back hok h).1, lfN_enc hok h⟩
theorem rt_top {l : List Int} (h : goodR l = true) : at8 (rtEnc l) 0 = 82 ∧ (at8 (rtEnc l) 1).toNat = l.length := ⟨isRt_first (rt_back h).1, rtN_enc h⟩
theorem rt_one {l : List Int} (h : goodR l = true) {k : Nat} {z : Int} (hz : l[k]? = some z) : ((at8 (rtEnc l) (2 + k)).toNat : Int) = z := by
  have hk := (List.getElem?_eq_some_iff.1 hz).1
  have hr := goodR_parts h
  have hzz := hr.2 z (List.mem_of_getElem? hz)
  unfold rtEnc
  rw [if_pos h, seal_at (by rw [rtB_len]; omega)]
  have e : at8 (rtB l) (2 + k) = u8 z := by
    unfold rtB
    have := at8_right (a := [82, u8 (l.length : Int)]) (b := l.map u8) k
    refine Eq.trans this ?_
    unfold at8
    rw [List.getElem?_map, hz]
    rfl
  rw [e]
  have := u8_toNat z
  omega
theorem rt_take {l : List Int} (h : goodR l = true) : (rtEnc l).take (2 + l.length) = rtB l ∧ ((rtEnc l).drop (2 + l.length)).take 4 = chk (rtB l) := by
  unfold rtEnc
  rw [if_pos h, ← rtB_len]
  unfold sealB pad
  rw [List.append_assoc]
  refine ⟨List.take_left, ?_⟩
  rw [List.drop_left]
  have := chk_len (rtB l)
  rw [← this, List.take_left]
set_option maxRecDepth 100000 in
theorem big_plc {A A' : Option Addr} {n c m c' : Nat} (w : World) (h : 20 < n ∨ (¬ 20 < n ∧ 300 < m)) : Calls Try.prog 10 #[.slice A n c, .slice A' m c'] w (Ret w (.bool true)) := by
  go_enter Try.func10, Try.ntmps10
  rcases h with h | ⟨h, h'⟩
  · have q1 : (20 : Int) < (n : Int) := by omega
    go_wp2_with (first
      | (go_at_call 23; refine Calls.mono (wakes05_any _) ?_; rintro e W3 ⟨rfl, hb3⟩)
      | fail)
    go_ret
    exact Ret.mk rfl hb3
  · have q1 : ¬ (20 : Int) < (n : Int) := by omega
    have q2 : (300 : Int) < (m : Int) := by omega
    go_wp2_with (first
      | (go_at_call 23; refine Calls.mono (wakes05_any _) ?_; rintro e W3 ⟨rfl, hb3⟩)
      | fail)
    go_ret
    exact Ret.mk rfl hb3
set_option maxHeartbeats 32000000 in
set_option maxRecDepth 100000 in
theorem plc_core {A A' : Option Addr} {n c p c' : Nat} {l : List EN} {ps : List Int} (w : World) (hl : LfAt w w.heap.size A n c l) (hp : IvAt w w.heap.size A' p c' ps) (hn : n ≤ 20) (hpn : p ≤ 300) :
    Calls Try.prog 10 #[.slice A n c, .slice A' p c'] w (Ret w (.bool true)) := by
  have hPl := lfEnc_len hl.ok
  have hRl := rtEnc_len ps
  have hln := hl.len
  have hlp := hp.len
  have hok := hl.ok
  have f1 : goodE l = true → ∀ k x, l[k]? = some x → enAt (lfEnc l) (2 + k * 36) = x := fun h k x hx => lf_one hok h hx
  have f2 : goodE l = true → ∀ i, 6 + l.length * 36 ≤ i → at8 (lfEnc l) i = 0 := fun h i hi => lf_zero hok h hi
  have f3 := lf_top (l := l) hok
  have f4 : goodE l = true → l.length ≤ 3 := fun h => (goodE_parts h).1.2
  have f5 : goodE l = false → lfEnc l = zblk := fun h => by unfold lfEnc; rw [h]; rfl
  have f6 : goodR ps = true → ∀ k z, ps[k]? = some z → ((at8 (rtEnc ps) (2 + k)).toNat : Int) = z := fun h k z hz => rt_one h hz
  have f7 := rt_top (l := ps)
  have f8 := rt_take (l := ps)
  have f9 : goodR ps = false → rtEnc ps = zblk := fun h => by unfold rtEnc; rw [h]; rfl
  have f10 : goodR ps = true → ps.length ≤ 100 := fun h => (goodR_parts h).1.2
  have f11 := rtB_len ps
  have hlE := fun W (h : LfAt W W.heap.size A n c l) => lenc_any W h
  have hlG := fun W (h : LfAt W W.heap.size A n c l) => lgood_any W h
  have hpE := fun W (h : IvAt W W.heap.size A' p c' ps) => root_any W h (by omega)
  unfold bkv at hlE hpE
  obtain ⟨G, hG⟩ : ∃ q, goodE l = q := ⟨_, rfl⟩
  obtain ⟨GR, hGR⟩ : ∃ q, goodR ps = q := ⟨_, rfl⟩
  obtain ⟨P, hP⟩ : ∃ q, lfEnc l = q := ⟨_, rfl⟩
  obtain ⟨R, hR⟩ : ∃ q, rtEnc ps = q := ⟨_, rfl⟩
  simp only [hG, hP, hln] at f1 f2 f3 f4 f5
  simp only [hGR, hR, hlp] at f6 f7 f8 f9 f10
  rw [hlp] at f11
  rw [hP] at hPl
  rw [hR] at hRl
  simp only [hP, hG] at hlE
  simp only [hG] at hlG
  simp only [hR, hGR] at hpE
  obtain ⟨cp, hcp⟩ : ∃ q, (bvs P).toArray = q := ⟨_, rfl⟩
  obtain ⟨cr, hcr⟩ : ∃ q, (bvs R).toArray = q := ⟨_, rfl⟩
  have hpi := bk_info hPl
  have hri := bk_info hRl
  have hps := blk_sizes zblk_len hPl
  have hrs := blk_sizes zblk_len hRl
  have hp1 := all_oneCell_toArray (oneCell_bvs P)
  have hr1 := all_oneCell_toArray (oneCell_bvs R)
  have hze := fun W => blk_q zblk_len zblk_len W
  have hbz := blkZ
  have hb0 := built_blk0
  obtain ⟨zb, hzb⟩ : ∃ q, (bvs zblk).toArray = q := ⟨_, rfl⟩
  have szp : cp.size = 128 := by rw [← hcp, List.size_toArray, bvs_len, hPl]
  have szr : cr.size = 128 := by rw [← hcr, List.size_toArray, bvs_len, hRl]
  rw [hzb] at hbz hps hrs hb0
  rw [hcp] at hpi hps hp1
  rw [hcr] at hri hrs hr1
  simp only [hcp] at hlE
  simp only [hcr] at hpE
  simp only [hzb, beq_self_eq_true] at hze
  have hC4 := chk_len (rtB ps)
  have HC := Lib.hid (And.intro hcp (And.intro hcr hzb))
  have HF := Lib.hid (And.intro f1 (And.intro f2 (And.intro f3 (And.intro f4 f5))))
  have HR := Lib.hid (And.intro f6 (And.intro f7 (And.intro f8 (And.intro f9 (And.intro f10 f11)))))
  have HT := Lib.hid (And.intro hlE (And.intro hlG (And.intro hpE hze)))
  have HG := Lib.hid (And.intro hG hGR)
  have HK := Lib.hid (And.intro hok (And.intro hln hlp))
  clear hcp hcr hzb f1 f2 f3 f4 f5 f6 f7 f8 f9 f10 f11 hlE hlG hpE hze hG hGR hP hR hok hln hlp
  have q1 : ¬ (20 : Int) < (n : Int) := by omega
  have q2 : ¬ (300 : Int) < (p : Int) := by omega
  have hB := Below.refl w.heap.size w
  go_enter Try.func10, Try.ntmps10
  go_upto_region 3 with (fail)
  have HP1 := Lib.hid (And.intro hl (And.intro hp hB))
  clear hl hp hB
  have hc := HT.out.1 _ HP1.out.1
  go_wp2_with fail
  refine Calls.mono hc ?_
  rintro e w5 ⟨rfl, hb1⟩
  obtain ⟨Y5, hY5, y5, bY5⟩ := newRow w5 zb cp 40
  have hb := hb1.trans (bY5.mono hb1.size)
  obtain ⟨hl_o, hp_o, hB_o⟩ := HP1.out
  have hl := hl_o.nxt hb
  have hp := hp_o.nxt hb
  have hB := bNext hB_o hb
  clear hl_o hp_o hB_o HP1
  clear hb hb1 bY5 hc
  have HP2 := Lib.hid (And.intro hl (And.intro hp (And.intro hB y5)))
  clear hl hp hB y5
  go_upto_region 4 with (first
    | (refine wpList_new rfl hbz rfl ?_)
    | (refine wpList_store_row rfl 40 (.tmp 5) (.tmp 26) rfl _ cp rfl rfl _ zb (heap_alloc_new _ _) hpi hps hp1 ?_)
    | fail)
  try rw [hY5]
  clear hY5
  cases G
  · rw [show erE false = 11 from rfl]
    have hcz : cp = zb := by rw [← HC.out.1, HF.out.2.2.2.2 (by trivial), HC.out.2.2]
    have z5 := HP2.out.2.2.2
    rw [hcz] at z5 hpi
    have hze := HT.out.2.2.2
    have hgd := HT.out.2.1 _ HP2.out.1
    clear hcz
    go_wp2_with (first
      | (refine wpList_load_row rfl 40 (.tmp 5) rfl _ rfl _ zb (0, 0) _ z5 Try.underlying40 rfl hpi ?_)
      | (refine wpList_built rfl 40 #[] rfl (cs := zb) (by simp only [List.map_toArray, List.map_nil]; exact hb0) ?_)
      | (go_at_call 32; go_loud (with_reducible refine Calls.mono hgd ?_); clear hgd; rintro e W8 ⟨rfl, hb8⟩)
      | (go_at_call 23; refine Calls.mono (wakes05_any _) ?_; rintro e W9 ⟨rfl, hb9⟩)
      | fail)
    go_ret
    exact Ret.mk rfl (bNext (bNext HP2.out.2.2.1 hb8) hb9)
  · rw [show erE true = 0 from rfl]
    have hn3 := HF.out.2.2.2.1 (by trivial)
    have h5 := HP2.out.2.2.2
    have t0 := row_cell (by rw [HC.out.1]; exact h5 : Y5.heap[w5.heap.size]? = some (.cells (bvs P).toArray 40)) (i := 0) (by omega)
    have t1 := row_cell (by rw [HC.out.1]; exact h5 : Y5.heap[w5.heap.size]? = some (.cells (bvs P).toArray 40)) (i := 1) (by omega)
    rw [(HF.out.2.2.1 (by trivial)).1] at t0
    rw [(HF.out.2.2.1 (by trivial)).2] at t1
    replace t0 : Y5.cell? ⟨w5.heap.size, 0, none⟩ = some (.int .u8 76) := t0
    have l5 := (Array.getElem?_eq_some_iff.1 h5).1
    have e1 : IntKind.i64.wrap (n : Int) = n := wrap_small _ (by omega) (by omega)
    clear h5
    go_upto_region 8 with (fail)
    clear t0 t1
    go_wp2_with fail
    go_loopw [7] (fun si wr => ∃ k : Nat, k ≤ n ∧ si = .int .i64 k ∧ Below Y5.heap.size Y5 wr) (fun i _ => n - (intOf i).toNat)
    case atStart => exact ⟨0, by omega, rfl, Below.refl _ _⟩
    case round =>
      obtain ⟨k, hk, rfl, hbr⟩ := hrel
      by_cases hlt : k < n
      · have hBr := Lib.hid hbr
        obtain ⟨x, hx⟩ : ∃ x, l[k]? = some x := ⟨_, List.getElem?_eq_getElem (by rw [HK.out.2.1]; exact hlt)⟩
        have hxo := HK.out.1 x (List.mem_of_getElem? hx)
        obtain ⟨b, o, rfl, hbB, hxr⟩ := HP2.out.1.entry hx
        have hen := HF.out.1 (by trivial) _ _ hx
        obtain ⟨m, hm⟩ : ∃ m, 2 + k * 36 = m := ⟨_, rfl⟩
        rw [hm] at hen
        have hm92 : m + 36 ≤ 128 := by omega
        have hi1 : (k : Int) < (n : Int) := by omega
        have hi0 : 0 < n := by omega
        have x1 : IntKind.i64.wrap (36 * (k : Int)) = (m : Int) - 2 := by rw [wrap_small _ (by omega) (by omega)]; omega
        have x2 : IntKind.i64.wrap (2 + ((m : Int) - 2)) = (m : Int) := by rw [wrap_small _ (by omega) (by omega)]; omega
        have h5 := HP2.out.2.2.2
        have hrow : Y5.heap[w5.heap.size]? = some (.cells (bvs P).toArray 40) := by rw [HC.out.1]; exact h5
        have k32 := row_cell hrow (i := m + 32) (by omega)
        have k33 := row_cell hrow (i := m + 33) (by omega)
        have k34 := row_cell hrow (i := m + 34) (by omega)
        have k35 := row_cell hrow (i := m + 35) (by omega)
        have hsl1 := part_row hrow m 32 (by omega)
        obtain ⟨rk, c32, c33, c34⟩ := en_range hxo hxr
        have u32 := (at8 P (m + 32)).toNat_lt
        have u33 := (at8 P (m + 33)).toNat_lt
        have u34 := (at8 P (m + 34)).toNat_lt
        have u35 := (at8 P (m + 35)).toNat_lt
        have ekey : (P.drop m).take 32 = x.key := by rw [← hen]; rfl
        have epl : x.place = ((at8 P (m + 32)).toNat : Int) := by rw [← hen]; rfl
        have ebl : x.blocks = ((at8 P (m + 33)).toNat : Int) := by rw [← hen]; rfl
        have erf : x.refs = (((at8 P (m + 34)).toNat * 256 + (at8 P (m + 35)).toNat : Nat) : Int) := by rw [← hen]; rfl
        rw [ekey] at hsl1
        rw [epl] at c32
        rw [ebl] at c33
        rw [erf] at c34
        have hkl := hxo.key
        generalize (at8 P (m + 32)).toNat = p32 at *
        generalize (at8 P (m + 33)).toNat = p33 at *
        generalize (at8 P (m + 34)).toNat = p34 at *
        generalize (at8 P (m + 35)).toNat = p35 at *
        obtain ⟨N, hN⟩ : ∃ N, p34 * 256 + p35 = N := ⟨_, rfl⟩
        rw [hN] at c34
        have w0 : IntKind.i64.wrap (p32 : Int) = p32 := wrap_small _ (by omega) (by omega)
        have w1 : IntKind.i64.wrap (p33 : Int) = p33 := wrap_small _ (by omega) (by omega)
        have w2 : IntKind.i64.wrap (p34 : Int) = p34 := wrap_small _ (by omega) (by omega)
        have w3 : IntKind.i64.wrap (p35 : Int) = p35 := wrap_small _ (by omega) (by omega)
        have w4 : IntKind.i64.wrap ((p34 : Int) * 256) = (p34 : Int) * 256 := wrap_small _ (by omega) (by omega)
        have w5' : IntKind.i64.wrap ((p34 : Int) * 256 + (p35 : Int)) = (N : Int) := by rw [wrap_small _ (by omega) (by omega)]; omega
        have a32 : IntKind.i64.wrap ((m : Int) + 32) = (m : Int) + 32 := wrap_small _ (by omega) (by omega)
        have a33 : IntKind.i64.wrap ((m : Int) + 33) = (m : Int) + 33 := wrap_small _ (by omega) (by omega)
        have a34 : IntKind.i64.wrap ((m : Int) + 34) = (m : Int) + 34 := wrap_small _ (by omega) (by omega)
        have a35 : IntKind.i64.wrap ((m : Int) + 35) = (m : Int) + 35 := wrap_small _ (by omega) (by omega)
        have n32 : ((m : Int) + 32).toNat = m + 32 := by omega
        have n33 : ((m : Int) + 33).toNat = m + 33 := by omega
        have n34 : ((m : Int) + 34).toNat = m + 34 := by omega
        have n35 : ((m : Int) + 35).toNat = m + 35 := by omega
        have p32' : (0 : Int) ≤ (m : Int) + 32 := by omega
        have p33' : (0 : Int) ≤ (m : Int) + 33 := by omega
        have p34' : (0 : Int) ≤ (m : Int) + 34 := by omega
        have p35' : (0 : Int) ≤ (m : Int) + 35 := by omega
        have q32 : (m : Int) + 32 < 128 := by omega
        have q33 : (m : Int) + 33 < 128 := by omega
        have q34 : (m : Int) + 34 < 128 := by omega
        have q35 : (m : Int) + 35 < 128 := by omega
        have q36 : (m : Int) + 32 ≤ 128 := by omega
        have q37 : (m : Int) ≤ (m : Int) + 32 := by omega
        have q38 : (0 : Int) ≤ (m : Int) := by omega
        have q39 : m + 32 - m = 32 := by omega
        have q40 : ¬ 128 = m := by omega
        have hsl2 : Sl Y5 Y5.heap.size 1 (some ⟨b, o + k * 35, none⟩) 32 (bvs x.key) := ⟨by rw [bvs_len, hkl], fun _ => ⟨b, o + k * 35, rfl, hbB, rk⟩⟩
        have hby := fun W (h : Below Y5.heap.size Y5 W) c c' => bytes_any _ _ 32 32 c c' _ _ x.key x.key W (hsl1.below h) (hsl2.below h)
        simp only [decide_true] at hby
        have hzr := hbr.size
        let S : World → Prop := fun w' => Below Y5.heap.size Y5 w'
        have r32 : ∀ w', S w' → w'.cell? ⟨w5.heap.size, m + 32, none⟩ = some (.int .u8 (p32 : Int)) := fun w' h => (Below.cell (show Below Y5.heap.size Y5 w' from h) (p := ⟨w5.heap.size, m + 32, none⟩) l5).trans k32
        have r33 : ∀ w', S w' → w'.cell? ⟨w5.heap.size, m + 33, none⟩ = some (.int .u8 (p33 : Int)) := fun w' h => (Below.cell (show Below Y5.heap.size Y5 w' from h) (p := ⟨w5.heap.size, m + 33, none⟩) l5).trans k33
        have r34 : ∀ w', S w' → w'.cell? ⟨w5.heap.size, m + 34, none⟩ = some (.int .u8 (p34 : Int)) := fun w' h => (Below.cell (show Below Y5.heap.size Y5 w' from h) (p := ⟨w5.heap.size, m + 34, none⟩) l5).trans k34
        have r35 : ∀ w', S w' → w'.cell? ⟨w5.heap.size, m + 35, none⟩ = some (.int .u8 (p35 : Int)) := fun w' h => (Below.cell (show Below Y5.heap.size Y5 w' from h) (p := ⟨w5.heap.size, m + 35, none⟩) l5).trans k35
        have s32 : ∀ w', S w' → w'.cell? ⟨b, o + k * 35 + 32, none⟩ = some (.int .i64 (p32 : Int)) := fun w' h => (Below.cell (show Below Y5.heap.size Y5 w' from h) (p := ⟨b, o + k * 35 + 32, none⟩) hbB).trans c32
        have s33 : ∀ w', S w' → w'.cell? ⟨b, o + k * 35 + 33, none⟩ = some (.int .i64 (p33 : Int)) := fun w' h => (Below.cell (show Below Y5.heap.size Y5 w' from h) (p := ⟨b, o + k * 35 + 33, none⟩) hbB).trans c33
        have s34 : ∀ w', S w' → w'.cell? ⟨b, o + k * 35 + 34, none⟩ = some (.int .i64 (N : Int)) := fun w' h => (Below.cell (show Below Y5.heap.size Y5 w' from h) (p := ⟨b, o + k * 35 + 34, none⟩) hbB).trans c34
        have hS0 : S wr.drew := hbr.drew
        have HX := Lib.hid (And.intro hm hN)
        clear h5 hrow k32 k33 k34 k35 hsl1 hsl2 rk c32 c33 c34 ekey epl ebl erf hen hxr hx hxo hbr hm hN hkl
        go_upto_region 12 with (fail)
        (try simp only [List.append_eq, List.cons_append, List.nil_append])
        refine wp_region_held (S := S) (by kernel_rfl) ?_
        change wpAnyH _ _ _ _ S _ _ _ wr.drew
        change At 0 _
        iterate 9 (first | (apply tkA; (case hi => (simp only [List.getElem?_toArray, List.getElem?_cons_zero, List.getElem?_cons_succ]; rfl)); (case hw => rfl); (case hy => (intro w' hSw; (try simp only [S] at hSw); go_simp; (try with_reducible rfl))); (case hs => kernel_rfl); (case hf => kernel_rfl); (case hr => kernel_rfl); (case hQ => exact fun _ _ _ h => h); (case hS => assumption); (try simp only [Act.put, List.setIfInBounds_toArray, List.set_cons_zero, List.set_cons_succ, Nat.reduceAdd])) | (apply skA; (case hi => (simp only [List.getElem?_toArray, List.getElem?_cons_zero, List.getElem?_cons_succ]; rfl)); (case hw => rfl); (case hs => kernel_rfl); (case hf => kernel_rfl); (case hr => kernel_rfl); (case hQ => exact fun _ _ _ h => h); (case hS => assumption); (try simp only [Act.put, List.setIfInBounds_toArray, List.set_cons_zero, List.set_cons_succ, Nat.reduceAdd])))
        change wpAnyH _ _ _ _ _ _ _ _ _
        refine wpAnyH_ready (rs := [9]) (by kernel_rfl) (by simp) (AllReadyH.cons (o := ?oo9_4) ?hoo9_4 (fun K hK => ?steponly4) AllReadyH.nil); (case hoo9_4 => (simp only [List.getElem?_toArray, List.getElem?_cons_zero, List.getElem?_cons_succ]; rfl))
        go_simp
        refine Calls.mono (hby _ hS0 _ _) ?_
        rintro e w' ⟨rfl, rfl⟩
        refine hK.out _ _ hS0 (fun _ => ?_)
        clear hK K hby
        (try simp only [Act.put, List.setIfInBounds_toArray, List.set_cons_zero, List.set_cons_succ])
        change At 10 _
        iterate 47 (first | (apply tkA; (case hi => (simp only [List.getElem?_toArray, List.getElem?_cons_zero, List.getElem?_cons_succ]; rfl)); (case hw => rfl); (case hy => (intro w' hSw; have h1 := r32 w' hSw; have h2 := r33 w' hSw; have h3 := r34 w' hSw; have h4 := r35 w' hSw; have h5 := s32 w' hSw; have h6 := s33 w' hSw; have h7 := s34 w' hSw; (try simp only [S] at hSw); go_simp; (try with_reducible rfl))); (case hs => kernel_rfl); (case hf => kernel_rfl); (case hr => kernel_rfl); (case hQ => exact fun _ _ _ h => h); (case hS => assumption); (try simp only [Act.put, List.setIfInBounds_toArray, List.set_cons_zero, List.set_cons_succ, Nat.reduceAdd])) | (apply skA; (case hi => (simp only [List.getElem?_toArray, List.getElem?_cons_zero, List.getElem?_cons_succ]; rfl)); (case hw => rfl); (case hs => kernel_rfl); (case hf => kernel_rfl); (case hr => kernel_rfl); (case hQ => exact fun _ _ _ h => h); (case hS => assumption); (try simp only [Act.put, List.setIfInBounds_toArray, List.set_cons_zero, List.set_cons_succ, Nat.reduceAdd])))
        change wpAnyH _ _ _ _ _ _ _ _ _
        refine wpAnyH_done (by kernel_rfl) ?_ _
        clear hS0 r32 r33 r34 r35 s32 s33 s34 w0 w1 w2 w3 w4 w5' a32 a33 a34 a35 n32 n33 n34 n35 x1 x2
        go_wp2_with fail
        go_roundw
        case rel => exact ⟨k + 1, by omega, by go_num, hBr.out.drew⟩
        case measure => simp [intOf]; omega
      · obtain rfl : k = n := by omega
        have hi1 : ¬ (k : Int) < (k : Int) := by omega
        obtain ⟨hl_o, hp_o, hB_o, y5_o⟩ := HP2.out
        have hl := hl_o.nxt hbr
        have hp := hp_o.nxt hbr
        have hB := bNext hB_o hbr
        have y5 := bBlk hbr (Array.getElem?_eq_some_iff.1 y5_o).1 y5_o
        clear hl_o hp_o hB_o y5_o HP2
        clear hbr
        have HP3 := Lib.hid (And.intro hl (And.intro hp (And.intro hB y5)))
        clear hl hp hB y5
        obtain ⟨M, hM⟩ : ∃ M, 6 + k * 36 = M := ⟨_, rfl⟩
        have hM114 : M ≤ 114 := by omega
        have x1 : IntKind.i64.wrap (36 * (k : Int)) = (M : Int) - 6 := by rw [wrap_small _ (by omega) (by omega)]; omega
        have x2 : IntKind.i64.wrap (6 + ((M : Int) - 6)) = (M : Int) := by rw [wrap_small _ (by omega) (by omega)]; omega
        have hzs := HF.out.2.1 (by trivial)
        rw [hM] at hzs
        have HZ := Lib.hid hzs
        clear hzs hM
        go_upto_region 14 with (fail)
        go_wp2_with fail
        rename World => wa
        have la : w5.heap.size < wa.heap.size := (Array.getElem?_eq_some_iff.1 HP3.out.2.2.2).1
        clear x1 x2
        go_loopw [9] (fun si wr => ∃ j : Nat, M ≤ j ∧ j ≤ 128 ∧ si = .int .i64 j ∧ Below wa.heap.size wa wr) (fun i _ => 128 - (intOf i).toNat)
        case atStart => exact ⟨M, by omega, by omega, rfl, Below.refl _ _⟩
        case round =>
          obtain ⟨j, hj1, hj2, rfl, hbr⟩ := hrel
          by_cases hj : j < 128
          · have h5 := HP3.out.2.2.2
            have kj := row_cell (by rw [HC.out.1]; exact h5 : wa.heap[w5.heap.size]? = some (.cells (bvs P).toArray 40)) (i := j) (by omega)
            rw [HZ.out _ hj1] at kj
            replace kj : wr.cell? ⟨w5.heap.size, j, none⟩ = some (.int .u8 0) := (hbr.cell (p := ⟨w5.heap.size, j, none⟩) la).trans kj
            have hjj : (j : Int) < 128 := by omega
            have HBr := Lib.hid hbr
            clear h5 hbr
            go_wp2_with fail
            go_roundw
            case rel => exact ⟨j + 1, by omega, by omega, by go_num, HBr.out⟩
            case measure => simp [intOf]; omega
          · obtain rfl : j = 128 := by omega
            have hjj : ¬ ((128 : Nat) : Int) < 128 := by omega
            obtain ⟨hl_o, hp_o, hB_o, y5_o⟩ := HP3.out
            have hl := hl_o.nxt hbr
            have hp := hp_o.nxt hbr
            have hB := bNext hB_o hbr
            have y5 := bBlk hbr (Array.getElem?_eq_some_iff.1 y5_o).1 y5_o
            clear hl_o hp_o hB_o y5_o HP3
            clear hbr
            have HP4 := Lib.hid (And.intro hl (And.intro hp (And.intro hB y5)))
            clear hl hp hB y5
            go_upto_region 19 with (fail)
            have hc := HT.out.2.2.1 _ HP4.out.2.1
            go_wp2_with fail
            refine Calls.mono hc ?_
            rintro e w10 ⟨rfl, hb1⟩
            obtain ⟨Y10, hY10, y10, bY10⟩ := newRow w10 zb cr 40
            have hb := hb1.trans (bY10.mono hb1.size)
            obtain ⟨hl_o, hp_o, hB_o, y5_o⟩ := HP4.out
            have hl := hl_o.nxt hb
            have hp := hp_o.nxt hb
            have hB := bNext hB_o hb
            have y5 := bBlk hb (Array.getElem?_eq_some_iff.1 y5_o).1 y5_o
            clear hl_o hp_o hB_o y5_o HP4
            clear hb hb1 bY10 hc
            have HP5 := Lib.hid (And.intro hl (And.intro hp (And.intro hB (And.intro y5 y10))))
            clear hl hp hB y5 y10
            go_upto_region 20 with (first
              | (refine wpList_new rfl hbz rfl ?_)
              | (refine wpList_store_row rfl 40 (.tmp 10) (.tmp 133) rfl _ cr rfl rfl _ zb (heap_alloc_new _ _) hri hrs hr1 ?_)
              | fail)
            try rw [hY10]
            clear hY10
            cases GR
            · rw [show erE false = 11 from rfl]
              have hcz : cr = zb := by rw [← HC.out.2.1, HR.out.2.2.2.1 (by trivial), HC.out.2.2]
              have z10 := HP5.out.2.2.2.2
              rw [hcz] at z10 hri
              have hze := HT.out.2.2.2
              clear hcz
              go_wp2_with (first
                | (refine wpList_load_row rfl 40 (.tmp 10) rfl _ rfl _ zb (0, 0) _ z10 Try.underlying40 rfl hri ?_)
                | (refine wpList_built rfl 40 #[] rfl (cs := zb) (by simp only [List.map_toArray, List.map_nil]; exact hb0) ?_)
                | (go_at_call 23; refine Calls.mono (wakes05_any _) ?_; rintro e W9 ⟨rfl, hb9⟩)
                | fail)
              go_ret
              exact Ret.mk rfl (bNext HP5.out.2.2.1 hb9)
            · rw [show erE true = 0 from rfl]
              have hp100 := HR.out.2.2.2.2.1 (by trivial)
              have h10 := HP5.out.2.2.2.2
              have hrow : Y10.heap[w10.heap.size]? = some (.cells (bvs R).toArray 40) := by rw [HC.out.2.1]; exact h10
              have t0 := row_cell hrow (i := 0) (by omega)
              have t1 := row_cell hrow (i := 1) (by omega)
              rw [(HR.out.2.1 (by trivial)).1] at t0
              rw [(HR.out.2.1 (by trivial)).2] at t1
              replace t0 : Y10.cell? ⟨w10.heap.size, 0, none⟩ = some (.int .u8 82) := t0
              have l10 := (Array.getElem?_eq_some_iff.1 h10).1
              have ep : IntKind.i64.wrap (p : Int) = p := wrap_small _ (by omega) (by omega)
              clear h10 hrow
              go_upto_region 24 with (fail)
              clear t0 t1
              go_wp2_with fail
              go_loopw [12] (fun si wr => ∃ i : Nat, i ≤ p ∧ si = .int .i64 i ∧ Below Y10.heap.size Y10 wr) (fun i _ => p - (intOf i).toNat)
              case atStart => exact ⟨0, by omega, rfl, Below.refl _ _⟩
              case round =>
                obtain ⟨i, hi, rfl, hbr⟩ := hrel
                by_cases hip : i < p
                · have h10 := HP5.out.2.2.2.2
                  have hrow : Y10.heap[w10.heap.size]? = some (.cells (bvs R).toArray 40) := by rw [HC.out.2.1]; exact h10
                  obtain ⟨y, hy⟩ : ∃ y, ps[i]? = some y := ⟨_, List.getElem?_eq_getElem (by rw [HK.out.2.2]; exact hip)⟩
                  obtain ⟨b', o', rfl, hbB', hyr⟩ := HP5.out.2.1.entry hy
                  have ki := row_cell hrow (i := 2 + i) (by omega)
                  have eki := HR.out.1 (by trivial) _ _ hy
                  have uli := (at8 R (2 + i)).toNat_lt
                  rw [← eki] at hyr
                  generalize (at8 R (2 + i)).toNat = u at *
                  have wu : IntKind.i64.wrap (u : Int) = u := wrap_small _ (by omega) (by omega)
                  have wi : IntKind.i64.wrap (2 + (i : Int)) = 2 + (i : Int) := wrap_small _ (by omega) (by omega)
                  have ni : (2 + (i : Int)).toNat = 2 + i := by omega
                  have pi : (0 : Int) ≤ 2 + (i : Int) := by omega
                  have qi : 2 + (i : Int) < 128 := by omega
                  have hii : (i : Int) < (p : Int) := by omega
                  replace ki := (hbr.cell (p := ⟨w10.heap.size, 2 + i, none⟩) l10).trans ki
                  replace hyr := (hbr.cell (p := ⟨b', o' + i, none⟩) hbB').trans hyr
                  have hzr := hbr.size
                  have HBr := Lib.hid hbr
                  clear h10 hrow hy eki hbr
                  go_upto_region 27 with (fail)
                  go_quiet (fail)
                  obtain ⟨U, hU⟩ : ∃ q, wr.drewN nq = q := ⟨_, rfl⟩
                  have hbU : Below wr.heap.size wr U := by rw [← hU]; exact bDrewN (Below.refl _ _) nq
                  rw [hU]
                  have HBU := Lib.hid (bNext HBr.out hbU)
                  clear hU hbU ki hyr
                  go_wp2_with fail
                  go_roundw
                  case rel => exact ⟨i + 1, by omega, by go_num, HBU.out⟩
                  case measure => simp [intOf]; omega
                · obtain rfl : i = p := by omega
                  have hii : ¬ (i : Int) < (i : Int) := by omega
                  obtain ⟨hl_o, hp_o, hB_o, y5_o, y10_o⟩ := HP5.out
                  have hl := hl_o.nxt hbr
                  have hp := hp_o.nxt hbr
                  have hB := bNext hB_o hbr
                  have y5 := bBlk hbr (Array.getElem?_eq_some_iff.1 y5_o).1 y5_o
                  have y10 := bBlk hbr (Array.getElem?_eq_some_iff.1 y10_o).1 y10_o
                  clear hl_o hp_o hB_o y5_o y10_o HP5
                  clear hbr
                  have HP6 := Lib.hid (And.intro hl (And.intro hp (And.intro hB (And.intro y5 y10))))
                  clear hl hp hB y5 y10
                  rename World => wb
                  obtain ⟨T, hT⟩ : ∃ T, 2 + i = T := ⟨_, rfl⟩
                  have hT102 : T ≤ 102 := by omega
                  have g1 : IntKind.i64.wrap (2 + (i : Int)) = (T : Int) := by rw [wrap_small _ (by omega) (by omega)]; omega
                  have g2 : IntKind.i64.wrap (6 + (i : Int)) = (T : Int) + 4 := by rw [wrap_small _ (by omega) (by omega)]; omega
                  have g3 : (0 : Int) ≤ (T : Int) := by omega
                  have g4 : (T : Int) ≤ 128 := by omega
                  have g5 : (0 : Int) ≤ (T : Int) + 4 := by omega
                  have g6 : (T : Int) + 4 ≤ 128 := by omega
                  have g7 : (T : Int) ≤ (T : Int) + 4 := by omega
                  have g8 : ((T : Int) + 4).toNat = T + 4 := by omega
                  have g9 : T + 4 - T = 4 := by omega
                  have g10 : ¬ 128 = T := by omega
                  have htk := HR.out.2.2.1 (by trivial)
                  have hrl := HR.out.2.2.2.2.2
                  rw [hT] at htk hrl
                  have h10 := HP6.out.2.2.2.2
                  have hrow : wb.heap[w10.heap.size]? = some (.cells (bvs R).toArray 40) := by rw [HC.out.2.1]; exact h10
                  have hslx := part_row hrow 0 T (by omega)
                  rw [List.drop_zero, htk.1] at hslx
                  have hck := check_any (l := rtB ps) (c := 128) (by omega) wb (Nat.le_refl _) (by rw [hrl]; exact hslx)
                  rw [hrl, chk_first] at hck
                  obtain ⟨F, hFe⟩ : ∃ q, chk (rtB ps) = q := ⟨_, rfl⟩
                  have htk2 := htk.2
                  rw [hFe] at hck htk2 hC4
                  obtain ⟨cc, hcc⟩ : ∃ q, (bvs F).toArray = q := ⟨_, rfl⟩
                  have hd4 := d4_info hC4
                  have hd1 := all_oneCell_toArray (oneCell_bvs F)
                  have hdz := d4Z
                  have hds : (bvs (zs 4)).toArray.size = (bvs F).toArray.size := by rw [List.size_toArray, List.size_toArray, bvs_len, bvs_len, hC4]; rfl
                  obtain ⟨z4, hz4⟩ : ∃ q, (bvs (zs 4)).toArray = q := ⟨_, rfl⟩
                  rw [hz4] at hdz hds
                  rw [hcc] at hd4 hd1 hds hck
                  have szc : cc.size = 4 := by rw [← hcc, List.size_toArray, bvs_len, hC4]
                  have HCC := Lib.hid (And.intro hcc (And.intro htk2 hT))
                  clear htk htk2 hrl hslx h10 hrow hcc hz4 hFe hT
                  go_upto_region 29 with (fail)
                  go_wp2_with fail
                  refine Calls.mono hck ?_
                  rintro e w13 ⟨rfl, hb1⟩
                  clear hck
                  obtain ⟨Y13, hY13, y13, bY13⟩ := newRow w13 z4 cc 41
                  have hb := hb1.trans (bY13.mono hb1.size)
                  obtain ⟨hl_o, hp_o, hB_o, y5_o, y10_o⟩ := HP6.out
                  have hl := hl_o.nxt hb
                  have hp := hp_o.nxt hb
                  have hB := bNext hB_o hb
                  have y5 := bBlk hb (Array.getElem?_eq_some_iff.1 y5_o).1 y5_o
                  have y10 := bBlk hb (Array.getElem?_eq_some_iff.1 y10_o).1 y10_o
                  clear hl_o hp_o hB_o y5_o y10_o HP6
                  clear hb hb1 bY13
                  have HP7 := Lib.hid (And.intro hl (And.intro hp (And.intro hB (And.intro y5 (And.intro y10 y13)))))
                  clear hl hp hB y5 y10 y13
                  go_upto_region 30 with (first
                    | (refine wpList_new rfl hdz rfl ?_)
                    | (refine wpList_store_row rfl 41 (.tmp 13) (.tmp 174) rfl _ cc rfl rfl _ z4 (heap_alloc_new _ _) hd4 hds hd1 ?_)
                    | fail)
                  try rw [hY13]
                  clear hY13
                  have z10 := HP7.out.2.2.2.2.1
                  have z13 := HP7.out.2.2.2.2.2
                  have hs1 := part_row (by rw [HC.out.2.1]; exact z10 : Y13.heap[w10.heap.size]? = some (.cells (bvs R).toArray 40)) T 4 (by omega)
                  rw [HCC.out.2.1] at hs1
                  have hs2 := part_row (by rw [HCC.out.1]; exact z13 : Y13.heap[w13.heap.size]? = some (.cells (bvs F).toArray 41)) 0 4 (by omega)
                  rw [List.drop_zero, List.take_of_length_le (by omega)] at hs2
                  have hby := fun W (h : Below Y13.heap.size Y13 W) c c' => bytes_any _ _ 4 4 c c' _ _ F F W (hs1.below h) (hs2.below h)
                  simp only [decide_true] at hby
                  clear z10 z13 hs1 hs2
                  let S : World → Prop := fun w' => Below Y13.heap.size Y13 w'
                  have hS0 : S Y13.drew := (Below.refl _ _).drew
                  refine wp_region_held (S := S) (by kernel_rfl) ?_
                  change wpAnyH _ _ _ _ S _ _ _ Y13.drew
                  change At 0 _
                  iterate 8 (first | (apply tkA; (case hi => (simp only [List.getElem?_toArray, List.getElem?_cons_zero, List.getElem?_cons_succ]; rfl)); (case hw => rfl); (case hy => (intro w' hSw; (try simp only [S] at hSw); go_simp; (try with_reducible rfl))); (case hs => kernel_rfl); (case hf => kernel_rfl); (case hr => kernel_rfl); (case hQ => exact fun _ _ _ h => h); (case hS => assumption); (try simp only [Act.put, List.setIfInBounds_toArray, List.set_cons_zero, List.set_cons_succ, Nat.reduceAdd])) | (apply skA; (case hi => (simp only [List.getElem?_toArray, List.getElem?_cons_zero, List.getElem?_cons_succ]; rfl)); (case hw => rfl); (case hs => kernel_rfl); (case hf => kernel_rfl); (case hr => kernel_rfl); (case hQ => exact fun _ _ _ h => h); (case hS => assumption); (try simp only [Act.put, List.setIfInBounds_toArray, List.set_cons_zero, List.set_cons_succ, Nat.reduceAdd])))
                  change wpAnyH _ _ _ _ _ _ _ _ _
                  refine wpAnyH_ready (rs := [8]) (by kernel_rfl) (by simp) (AllReadyH.cons (o := ?oo8_5) ?hoo8_5 (fun K hK => ?steponly5) AllReadyH.nil); (case hoo8_5 => (simp only [List.getElem?_toArray, List.getElem?_cons_zero, List.getElem?_cons_succ]; rfl))
                  go_simp
                  refine Calls.mono (hby _ hS0 _ _) ?_
                  rintro e w' ⟨rfl, rfl⟩
                  refine hK.out _ _ hS0 (fun _ => ?_)
                  clear hK K hby
                  (try simp only [Act.put, List.setIfInBounds_toArray, List.set_cons_zero, List.set_cons_succ])
                  refine wpAnyH_take (i := 9) (oi := ?oi_1) (v := ?v_1) ?ho_1 ?h1_1 ?h2_1 ?h3_1 ?hq_1 (Or.inl ⟨?hw_1, ?hy_1⟩) ?hs_1 ?rest_1; (case h2_1 => kernel_rfl); (case h3_1 => kernel_rfl); (case ho_1 => (simp only [List.getElem?_toArray, List.getElem?_cons_zero, List.getElem?_cons_succ]; rfl)); (case h1_1 => kernel_rfl); (case hq_1 => exact fun _ _ _ h => h); (case hw_1 => rfl); (case hy_1 => (intro w' hSw; (try simp only [S] at hSw); go_simp; (try with_reducible rfl))); (case hs_1 => assumption); (try simp only [Act.put, List.setIfInBounds_toArray, List.set_cons_zero, List.set_cons_succ])
                  refine wpAnyH_ready (rs := [10]) (by kernel_rfl) (by simp) (AllReadyH.cons (o := ?oo10_6) ?hoo10_6 (fun K hK => ?steponly6) AllReadyH.nil); (case hoo10_6 => (simp only [List.getElem?_toArray, List.getElem?_cons_zero, List.getElem?_cons_succ]; rfl))
                  go_simp
                  refine Calls.mono (wakes05_any _) ?_
                  rintro e x10 ⟨rfl, hb9⟩
                  have hS1 : S x10 := (show Below _ _ Y13.drew from hS0).trans (hb9.mono (Nat.le_refl _))
                  refine hK.out _ _ hS1 (fun _ => ?_)
                  clear hK K
                  (try simp only [Act.put, List.setIfInBounds_toArray, List.set_cons_zero, List.set_cons_succ])
                  refine wpAnyH_take (i := 11) (oi := ?oi_2) (v := ?v_2) ?ho_2 ?h1_2 ?h2_2 ?h3_2 ?hq_2 (Or.inl ⟨?hw_2, ?hy_2⟩) ?hs_2 ?rest_2; (case h2_2 => kernel_rfl); (case h3_2 => kernel_rfl); (case ho_2 => (simp only [List.getElem?_toArray, List.getElem?_cons_zero, List.getElem?_cons_succ]; rfl)); (case h1_2 => kernel_rfl); (case hq_2 => exact fun _ _ _ h => h); (case hw_2 => rfl); (case hy_2 => (intro w' hSw; (try simp only [S] at hSw); go_simp; (try with_reducible rfl))); (case hs_2 => assumption); (try simp only [Act.put, List.setIfInBounds_toArray, List.set_cons_zero, List.set_cons_succ])
                  refine wpAnyH_take (i := 12) (oi := ?oi_3) (v := ?v_3) ?ho_3 ?h1_3 ?h2_3 ?h3_3 ?hq_3 (Or.inl ⟨?hw_3, ?hy_3⟩) ?hs_3 ?rest_3; (case h2_3 => kernel_rfl); (case h3_3 => kernel_rfl); (case ho_3 => (simp only [List.getElem?_toArray, List.getElem?_cons_zero, List.getElem?_cons_succ]; rfl)); (case h1_3 => kernel_rfl); (case hq_3 => exact fun _ _ _ h => h); (case hw_3 => rfl); (case hy_3 => (intro w' hSw; (try simp only [S] at hSw); go_simp; (try with_reducible rfl))); (case hs_3 => assumption); (try simp only [Act.put, List.setIfInBounds_toArray, List.set_cons_zero, List.set_cons_succ])
                  refine wpAnyH_done (by kernel_rfl) ?_ _
                  have HE := Lib.hid (bNext HP7.out.2.2.1 (show Below Y13.heap.size Y13 x10 from hS1))
                  clear hS0 hS1 hb9
                  go_wp2_with fail
                  go_ret
                  exact Ret.mk rfl HE.out
set_option maxRecDepth 100000 in
theorem leafPlaces_walk {H : Type} {enc : TypeId × Value → H} {W : World} {base : Nat} {v0 v1 : Value} {d0 d1 : DataW H} {p0 p1 : List MemPlace}
    (k0 : Value.okWide Try.prog W .any base 49 v0) (h0 : DataW.Trod enc Try.prog W 0 (fun _ => true) true 49 v0 d0 p0)
    (k1 : Value.okWide Try.prog W .any base 50 v1) (h1 : DataW.Trod enc Try.prog W 0 (fun _ => true) true 50 v1 d1 p1)
    : Calls Try.prog 10 #[v0, v1] W fun e W' => e = .returned (.bool true) ∧ Below W.heap.size W W' := by
  obtain ⟨A, n, c, l, rfl, hl, -⟩ := open_entries k0 h0
  obtain ⟨A', p, c', ps, rfl, hp, -⟩ := open_places k1 h1
  by_cases h : 20 < n
  · exact big_plc W (.inl h)
  · by_cases h' : 300 < p
    · exact big_plc W (.inr ⟨h, h'⟩)
    · exact plc_core W hl hp (by omega) (by omega)
end Go.Proofs.Ythmjkgpfnpdddaa
