/- The walk over LeafTurns. (s7/lfturns.py writes it.) -/
import Derived.Test.YthmjkgpfnpdddaaLfWakes
import Derived.Test.YthmjkgpfnpdddaaLfArg
namespace Go.Proofs.Ythmjkgpfnpdddaa
set_option linter.unusedSimpArgs false
set_option linter.unusedVariables false
open Go.RowKit Go.ChangeShapes Go.WideShapes Go.Sort

theorem xor_u8 (x y : UInt8) : bits .xor .u8 (x.toNat : Int) (y.toNat : Int) = (((x ^^^ y).toNat : Nat) : Int) := by
  have h1 := x.toNat_lt
  have h2 := y.toNat_lt
  have hx : x.toNat ^^^ y.toNat < 2 ^ 8 := Nat.xor_lt_two_pow (by omega) (by omega)
  show IntKind.u8.wrap ((BitVec.ofInt 8 (x.toNat : Int) ^^^ BitVec.ofInt 8 (y.toNat : Int)).toNat : Int) = _
  rw [BitVec.toNat_xor, BitVec.ofInt_natCast, BitVec.ofInt_natCast, BitVec.toNat_ofNat, BitVec.toNat_ofNat, Nat.mod_eq_of_lt h1, Nat.mod_eq_of_lt h2, IntKind.wrap_u8, UInt8.toNat_xor]
  omega
theorem lfDec_len (b : Blk) : (lfDec b).length ≤ 3 := by
  unfold lfDec
  split
  · rename_i h
    rw [enL, List.length_map, List.length_range]
    exact (isLf_parts h).1
  · simp
theorem xor_ne {x y : UInt8} (h : y ≠ 0) : x ^^^ y ≠ x := by
  intro e
  apply h
  have h1 : x ^^^ (x ^^^ y) = x ^^^ x := by rw [e]
  rwa [← UInt8.xor_assoc, UInt8.xor_self, UInt8.zero_xor] at h1
theorem bit_u8 {r : Nat} (h : r < 8) : ∃ V : UInt8, V ≠ 0 ∧ (2 : Int) ^ r % 256 = (V.toNat : Int) := by
  match r, h with
  | 0, _ => exact ⟨1, by decide, rfl⟩
  | 1, _ => exact ⟨2, by decide, rfl⟩
  | 2, _ => exact ⟨4, by decide, rfl⟩
  | 3, _ => exact ⟨8, by decide, rfl⟩
  | 4, _ => exact ⟨16, by decide, rfl⟩
  | 5, _ => exact ⟨32, by decide, rfl⟩
  | 6, _ => exact ⟨64, by decide, rfl⟩
  | 7, _ => exact ⟨128, by decide, rfl⟩
set_option maxRecDepth 100000 in
theorem big_turns {a d : Int} {A : Option Addr} {n c : Nat} (w : World) (h : 20 < n) : Calls Try.prog 11 #[.slice A n c, .int .u8 a, .int .u8 d] w (Ret w (.bool true)) := by
  have q1 : (20 : Int) < (n : Int) := by omega
  go_enter Try.func11, Try.ntmps11
  go_wp2_with (first
    | (go_at_call 23; refine Calls.mono (wakes05_any _) ?_; rintro e W3 ⟨rfl, hb3⟩)
    | fail)
  go_ret
  exact Ret.mk rfl hb3
set_option maxHeartbeats 16000000 in
set_option maxRecDepth 100000 in
theorem turns_core {a d : Int} (a0 : 0 ≤ a) (a1 : a < 256) (d0 : 0 ≤ d) (d1 : d < 256) {A : Option Addr} {n c : Nat} {l : List EN} (w : World) (hl : LfAt w w.heap.size A n c l) (hn : n ≤ 20) :
    Calls Try.prog 11 #[.slice A n c, .int .u8 a, .int .u8 d] w (Ret w (.bool true)) := by
  have hPl := lfEnc_len hl.ok
  have hE1 := lenc_any w hl
  unfold bkv at hE1
  have q1 : ¬ (20 : Int) < (n : Int) := by omega
  obtain ⟨I, hI⟩ : ∃ I, a.toNat % 128 = I := ⟨_, rfl⟩
  obtain ⟨r, hr⟩ : ∃ r, d.toNat % 8 = r := ⟨_, rfl⟩
  have hI1 : I < 128 := by omega
  have hr8 : r < 8 := by omega
  have e1 : IntKind.i64.wrap a = a := wrap_small _ (by omega) (by omega)
  have e2 : a.tmod 128 = (I : Int) := by rw [Int.tmod_eq_emod_of_nonneg a0]; omega
  have e2' : a % 128 = (I : Int) := by omega
  have e3 : IntKind.i64.wrap (I : Int) = I := wrap_small _ (by omega) (by omega)
  have e4 : (I : Int) < 128 := by omega
  have f2 : d.tmod 8 = (r : Int) := by rw [Int.tmod_eq_emod_of_nonneg d0]; omega
  have f2' : d % 8 = (r : Int) := by omega
  have f3 : IntKind.u8.wrap (r : Int) = r := by rw [IntKind.wrap_u8]; omega
  have f4 : (r : Int) ≤ 8 := by omega
  obtain ⟨V, hV0, hV⟩ := bit_u8 hr8
  obtain ⟨b, hbe⟩ : ∃ q, lfEnc l = q := ⟨_, rfl⟩
  rw [hbe] at hPl hE1
  have hxv := xor_u8 (at8 b I) V
  have hIb : I < b.length := by omega
  obtain ⟨b', hb'⟩ : ∃ q, b.set I (at8 b I ^^^ V) = q := ⟨_, rfl⟩
  have hb'l : b'.length = 128 := by rw [← hb', List.length_set, hPl]
  have hne : b' ≠ b := by
    intro e
    have h1 : (b.set I (at8 b I ^^^ V))[I]? = b[I]? := by rw [hb', e]
    rw [List.getElem?_set_self hIb, List.getElem?_eq_getElem hIb] at h1
    injection h1 with h1
    have h2 : at8 b I = b[I] := by unfold at8; rw [List.getElem?_eq_getElem hIb]; rfl
    rw [← h2] at h1
    exact xor_ne hV0 h1
  have hcb : (bvs b).toArray.setIfInBounds I (bv (at8 b I ^^^ V)) = (bvs b').toArray := by rw [← hb', List.setIfInBounds_toArray]; simp [bvs, List.map_set]
  obtain ⟨u, hu⟩ : ∃ u, at8 b I = u := ⟨_, rfl⟩
  have hci : (bvs b).toArray[I]? = some (.int .u8 (u.toNat : Int)) := by
    rw [← hu]
    simp [bvs, bv, at8, List.getElem?_eq_getElem hIb]
  rw [hu] at hxv hcb
  have hbv : bv (u ^^^ V) = .int .u8 (((u ^^^ V).toNat : Nat) : Int) := rfl
  rw [hbv] at hcb
  rw [← hV] at hxv
  obtain ⟨xv, hxve⟩ : ∃ q : Int, (((u ^^^ V).toNat : Nat) : Int) = q := ⟨_, rfl⟩
  have hxw : IntKind.u8.wrap xv = xv := by have := (u ^^^ V).toNat_lt; rw [IntKind.wrap_u8]; omega
  rw [hxve] at hxv hcb
  have hul := u.toNat_lt
  obtain ⟨cp, hcp⟩ : ∃ q, (bvs b).toArray = q := ⟨_, rfl⟩
  obtain ⟨cq, hcq⟩ : ∃ q, (bvs b').toArray = q := ⟨_, rfl⟩
  have hpi := bk_info hPl
  have hqi := bk_info hb'l
  have hps := blk_sizes zblk_len hPl
  have hp1 := all_oneCell_toArray (oneCell_bvs b)
  have hq1 := all_oneCell_toArray (oneCell_bvs b')
  have hqs := blk_sizes zblk_len hb'l
  have hbz := blkZ
  obtain ⟨zb, hzb⟩ : ∃ q, (bvs zblk).toArray = q := ⟨_, rfl⟩
  have hqe := fun W => blk_q hb'l hb'l W
  have hdec := fun W => ldec_any hb'l W
  unfold LDec bkv at hdec
  rw [hzb] at hbz hps hqs
  rw [hcp] at hpi hps hp1 hci hcb hE1
  rw [hcq] at hqi hq1 hqs hcb
  simp only [hcq, beq_self_eq_true] at hqe hdec
  have HB := Lib.hid (And.intro hbe (And.intro hne (And.intro hcq hcb)))
  clear hbe hne hcb hcp hcq hzb hI hr hV hV0 hu hbv hxve hb' hIb
  cases hg : goodE l
  · rw [hg, show erE false = 11 from rfl] at hE1
    clear hg e1 e2 e2' e3 f2 f2' f3 hqe hdec hci hxv
    go_enter Try.func11, Try.ntmps11
    go_upto_region 3 with (fail)
    go_wp2_with fail
    refine Calls.mono hE1 ?_
    rintro e W1 ⟨rfl, hb1⟩
    obtain ⟨Y, hY, y7, bY⟩ := newRow W1 zb cp 40
    have HY := Lib.hid (bNext hb1 bY)
    go_upto_region 4 with (first
      | (refine wpList_new rfl hbz rfl ?_)
      | (refine wpList_store_row rfl 40 (.tmp 7) (.tmp 20) rfl _ cp rfl rfl _ zb (heap_alloc_new _ _) hpi hps hp1 ?_)
      | fail)
    try rw [hY]
    clear hY hE1 hb1 bY
    go_wp2_with (first
      | (go_at_call 23; refine Calls.mono (wakes05_any _) ?_; rintro e W3 ⟨rfl, hb3⟩)
      | fail)
    go_ret
    exact Ret.mk rfl (bNext HY.out hb3)
  · rw [hg, show erE true = 0 from rfl] at hE1
    have HG := Lib.hid hg
    clear hg
    go_enter Try.func11, Try.ntmps11
    go_upto_region 3 with (fail)
    go_wp2_with fail
    refine Calls.mono hE1 ?_
    rintro e W1 ⟨rfl, hb1⟩
    have HW1 := Lib.hid hb1.size
    obtain ⟨Y, hY, y7, bY⟩ := newRow W1 zb cp 40
    have hat := (hl.nxt hb1).nxt bY
    have hBY := bNext hb1 bY
    have HY := Lib.hid (And.intro hat (And.intro hBY y7))
    go_upto_region 4 with (first
      | (refine wpList_new rfl hbz rfl ?_)
      | (refine wpList_store_row rfl 40 (.tmp 7) (.tmp 20) rfl _ cp rfl rfl _ zb (heap_alloc_new _ _) hpi hps hp1 ?_)
      | fail)
    try rw [hY]
    have hcell : Y.cell? ⟨W1.heap.size, I, none⟩ = some (.int .u8 (u.toNat : Int)) := blk_cell y7 hci
    have hfz := blk_frozen y7 I
    have HL := Lib.hid hl
    clear hY hE1 hb1 bY hat hBY y7 hl
    go_upto_region 6 with (fail)
    go_upto_region 7 with (fail)
    (try rw [hxv])
    generalize hX : World.setCell _ _ _ = X
    obtain ⟨-, hBY, y7⟩ := HY.out
    have x7 : X.heap[W1.heap.size]? = some (.cells cq 40) := by rw [← hX, ← HB.out.2.2.2]; exact blk_set y7 I _
    have hBX : Below w.heap.size w X := by rw [← hX]; exact hBY.setCell (p := ⟨W1.heap.size, I, none⟩) HW1.out _
    have hat := HL.out.nxt hBX
    have hd := hdec X
    clear hX hBY y7 HY hcell hfz hxv hci e1 e2 e2' e3 f2 f2' f3 hdec
    have HX := Lib.hid (And.intro hat (And.intro hBX x7))
    refine wp_region_lit ?_
    refine wpList_load_row rfl 40 (.tmp 7) rfl _ rfl _ cq (0, 0) _ x7 Try.underlying40 rfl hqi ?_
    (try simp only [Act.put, List.setIfInBounds_toArray, List.set_cons_zero, List.set_cons_succ])
    clear hat hBX x7
    go_wp2_with fail
    refine Calls.mono hd ?_
    rintro e Z ⟨A9, n9, c9, rfl, hat9, hbZ⟩
    clear hd
    obtain ⟨h1, h2, h3⟩ := HX.out
    have hat := h1.nxt hbZ
    have hBZ := bNext h2 hbZ
    have z7 := bBlk hbZ (Array.getElem?_eq_some_iff.1 h3).1 h3
    clear h1 h2 h3 HX hbZ
    cases hi : isLf b'
    · have h0 : lfDec b' = [] := by unfold lfDec; rw [hi]; rfl
      have hn9 : n9 = 0 := by have := hat9.len; rw [h0] at this; exact this.symm
      subst hn9
      have HZ := Lib.hid hBZ
      clear hBZ hat z7 hat9 hi h0
      rw [show erE false = 11 from rfl]
      go_wp2_with (first
        | (go_at_call 23; refine Calls.mono (wakes05_any _) ?_; rintro e W3 ⟨rfl, hb3⟩)
        | fail)
      go_ret
      exact Ret.mk rfl (bNext HZ.out hb3)
    · obtain ⟨hgd, hfw⟩ := lf_fwd hi
      have h3 := lfDec_len b'
      have hE2 := lenc_any Z hat9
      unfold bkv at hE2
      rw [hfw, hgd, HB.out.2.2.1, show erE true = 0 from rfl] at hE2
      have hlen9 := hat9.len
      have hneq : decide (lfDec b' = l) = false := by
        rw [decide_eq_false]
        intro e
        apply HB.out.2.1
        rw [← hfw, e, HB.out.1]
      have HZ := Lib.hid (And.intro hat9 (And.intro hat (And.intro hBZ (And.intro z7 hneq))))
      clear hat9 hat hBZ z7 hi hgd hfw hneq
      rw [show erE true = 0 from rfl]
      go_upto_region 10 with (fail)
      go_wp2_with fail
      refine Calls.mono hE2 ?_
      rintro e W2 ⟨rfl, hb2⟩
      clear hE2
      obtain ⟨U, hU, u11, bU⟩ := newRow W2 zb cq 40
      have hbu := hb2.trans (bU.mono hb2.size)
      obtain ⟨h1, h2, h3', h4, hneq⟩ := HZ.out
      have u7 := bBlk hbu (Array.getElem?_eq_some_iff.1 h4).1 h4
      have hke := keepe_any U (h1.nxt hbu) (h2.nxt hbu) (Nat.le_refl _) (Nat.le_refl _) (by omega)
      rw [hneq] at hke
      have HU := Lib.hid (bNext h3' hbu)
      clear h1 h2 h3' h4 hneq hb2 bU hbu HZ
      go_upto_region 11 with (first
        | (refine wpList_new rfl hbz rfl ?_)
        | (refine wpList_store_row rfl 40 (.tmp 11) (.tmp 55) rfl _ cq rfl rfl _ zb (heap_alloc_new _ _) hqi hqs hq1 ?_)
        | fail)
      try rw [hU]
      clear hU
      go_wp2_with (first
        | (refine wpList_load_row_g (by simp [Region.wanted, yielded, Act.put]) 40 (.tmp 11) rfl _ rfl _ cq (0, 0) _ u11 Try.underlying40 rfl hqi ?_)
        | (refine wpList_load_row_g (by simp [Region.wanted, yielded, Act.put]) 40 (.tmp 7) rfl _ rfl _ cq (0, 0) _ u7 Try.underlying40 rfl hqi ?_)
        | (go_at_call 34; go_loud (with_reducible refine Calls.mono hke ?_); clear hke; rintro e W5 ⟨rfl, hb5⟩)
        | (go_at_call 23; refine Calls.mono (wakes05_any _) ?_; rintro e W6 ⟨rfl, hb6⟩)
        | fail)
      go_ret
      exact Ret.mk rfl (bNext (bNext HU.out hb5) hb6)
set_option maxRecDepth 100000 in
theorem leafTurns_walk {H : Type} {enc : TypeId × Value → H} {W : World} {base : Nat} {v0 v1 v2 : Value} {d0 d1 d2 : DataW H} {p0 p1 p2 : List MemPlace}
    (k0 : Value.okWide Try.prog W .any base 49 v0) (h0 : DataW.Trod enc Try.prog W 0 (fun _ => true) true 49 v0 d0 p0)
    (k1 : Value.okWide Try.prog W .any base 5 v1) (h1 : DataW.Trod enc Try.prog W 0 (fun _ => true) true 5 v1 d1 p1)
    (k2 : Value.okWide Try.prog W .any base 5 v2) (h2 : DataW.Trod enc Try.prog W 0 (fun _ => true) true 5 v2 d2 p2)
    : Calls Try.prog 11 #[v0, v1, v2] W fun e W' => e = .returned (.bool true) ∧ Below W.heap.size W W' := by
  obtain ⟨A, n, c, l, rfl, hl, -⟩ := open_entries k0 h0
  obtain ⟨a, rfl, _, _, wa⟩ := open_int Try.underlying5 k1 h1
  obtain ⟨d, rfl, _, _, wd⟩ := open_int Try.underlying5 k2 h2
  have ha := wf_u8 wa
  have hd := wf_u8 wd
  by_cases h : 20 < n
  · exact big_turns W h
  · exact turns_core ha.1 (by omega) hd.1 (by omega) W hl (by omega)
end Go.Proofs.Ythmjkgpfnpdddaa
