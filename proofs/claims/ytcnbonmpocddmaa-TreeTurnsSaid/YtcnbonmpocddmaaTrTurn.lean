/- TreeTurns: the walk. -/
import Derived.Test.YtcnbonmpocddmaaTrTurnP
namespace Go.Proofs.Ytcnbonmpocddmaa
set_option linter.unusedSimpArgs false
set_option linter.unusedVariables false
open Go.RowKit Go.ChangeShapes Go.WideShapes Go.Sort

theorem xor_u8 (x y : UInt8) : bits .xor .u8 (x.toNat : Int) (y.toNat : Int) = (((x ^^^ y).toNat : Nat) : Int) := by
  have h1 := x.toNat_lt
  have h2 := y.toNat_lt
  have hx : x.toNat ^^^ y.toNat < 2 ^ 8 := Nat.xor_lt_two_pow (by omega) (by omega)
  show IntKind.u8.wrap ((BitVec.ofInt 8 (x.toNat : Int) ^^^ BitVec.ofInt 8 (y.toNat : Int)).toNat : Int) = _
  rw [BitVec.toNat_xor, BitVec.ofInt_natCast, BitVec.ofInt_natCast, BitVec.toNat_ofNat, BitVec.toNat_ofNat, Nat.mod_eq_of_lt h1, Nat.mod_eq_of_lt h2, IntKind.wrap_u8, UInt8.toNat_xor]
  omega
theorem xor_ne {x y : UInt8} (h : y ≠ 0) : x ^^^ y ≠ x := by
  intro e
  apply h
  have h1 : x ^^^ (x ^^^ y) = x ^^^ x := by rw [e]
  rwa [← UInt8.xor_assoc, UInt8.xor_self, UInt8.zero_xor] at h1
theorem big_turns {A : Option Addr} {n c : Nat} {a d : Int} (w : World) (h : 60 < n ∨ n = 0) : Calls Try.prog 5 #[.slice A n c, .int .u8 a, .int .u8 d] w (Ret w (.bool true)) := by
  rcases h with h | h
  · have h1 : (60 : Int) < (n : Int) := by omega
    go_enter Try.func5, Try.ntmps5
    go_wp2_with (first
      | (go_at_call 7; refine Calls.mono (wakes23_any _) ?_; rintro e W3 ⟨rfl, hb3⟩)
      | fail)
    go_ret
    exact Ret.mk rfl hb3
  · subst h
    go_enter Try.func5, Try.ntmps5
    go_wp2_with (first
      | (go_at_call 7; refine Calls.mono (wakes23_any _) ?_; rintro e W3 ⟨rfl, hb3⟩)
      | fail)
    go_ret
    exact Ret.mk rfl hb3
theorem dg_ne {x y : List UInt8} (hx : x.length = 32) (hy : y.length = 32) (h : x ≠ y) (w : World) : (Op.equalIn 10000 40 (.agg (bvs x).toArray) (.agg (bvs y).toArray)).run Try.prog w = .ok false w := by
  have := run_equalIn_bytes (P := Try.prog) w 9998 40 5 32 Try.underlying40 Try.underlying5 u8_sizeOf' x y hx hy
  rw [show (x == y) = false from beq_false_of_ne h] at this
  exact this
attribute [-go_sem] Builtin.append_
set_option maxHeartbeats 16000000 in
set_option maxRecDepth 100000 in
theorem turns_core {A : Option Addr} {n c a d : Nat} {l : List (List UInt8)} (w : World) (ha : a < 256) (hd : d < 256) (hl : DgAt w w.heap.size A n c l) (hn : n ≤ 60) (h0 : 0 < n) :
    Calls Try.prog 5 #[.slice A n c, .int .u8 a, .int .u8 d] w (Ret w (.bool true)) := by
  have hln := hl.len
  have i1 : ¬ (60 : Int) < (n : Int) := by omega
  have i2 : ¬ (n : Int) = 0 := by omega
  obtain ⟨U, hU⟩ : ∃ q, w.alloc (.cells #[] 40) = q := ⟨_, rfl⟩
  have hown0 := own_none' w w.heap.size 40 32 (Nat.le_refl _)
  have hbU : Below w.heap.size w U := by rw [← hU]; exact (Below.refl _ _).alloc (Nat.le_refl _) _
  rw [hU] at hown0
  obtain ⟨A7, c7, Y, hrun, hown7, hg7, hat7⟩ := run_app (P := Try.prog) U (ty := 22) (t := 22) Try.underlying22 elemD hown0 (hl.sl.below hbU) (c := c) (fun u hu => by
    unfold dgs at hu
    obtain ⟨y, -, hy⟩ := List.mem_flatMap.1 hu
    exact oneCell_bvs y u hy) (by simp only [maxLen]; omega) (by omega) hbU.size
  have hbY : Below w.heap.size w Y := hbU.trans ((Below.refl _ _).grown hg7 hbU.size (own_ge hown0))
  rw [Nat.zero_add, List.nil_append] at hown7
  rw [Nat.zero_add] at hrun
  obtain ⟨g, hA7, hgb⟩ : ∃ g, A7 = some ⟨g, 0, none⟩ ∧ w.heap.size ≤ g := by
    rcases hown7.2 with ⟨_, e⟩ | ⟨g, cap, cur, e, h1, _⟩
    · omega
    · cases e; exact ⟨g, rfl, h1⟩
  subst hA7
  obtain ⟨i, hi⟩ : ∃ i, a % n = i := ⟨_, rfl⟩
  obtain ⟨j, hj⟩ : ∃ j, d % 32 = j := ⟨_, rfl⟩
  have hin : i < n := by rw [← hi]; exact Nat.mod_lt _ h0
  have hj32 : j < 32 := by omega
  obtain ⟨x, hx⟩ : ∃ x, l[i]? = some x := ⟨_, List.getElem?_eq_getElem (by omega)⟩
  have hxl := hl.wide x (List.mem_of_getElem? hx)
  obtain ⟨u, hu⟩ : ∃ u, x[j]? = some u := ⟨_, List.getElem?_eq_getElem (by omega)⟩
  obtain ⟨V, hV⟩ : ∃ V : UInt8, (1 + (d : Int) % 255) = (V.toNat : Int) := ⟨u8 (1 + (d : Int) % 255), by have := u8_toNat (1 + (d : Int) % 255); omega⟩
  have hV0 : V ≠ 0 := fun e => by rw [e] at hV; have : (0 : UInt8).toNat = 0 := rfl; omega
  have hxu : ((l[i]?.getD [])[j]?.getD 0) = u := by rw [hx]; simp [hu]
  have hdgl : (dgs l).length = n * 32 := hown7.1
  have hcell : Y.cell? ⟨g, i * 32 + j, none⟩ = some (.int .u8 (u.toNat : Int)) := by
    have hat := (Sl.of_own hown7).elem (k := i) hin
    obtain ⟨b', o', e, -, -, hr⟩ := hat
    cases e
    rw [dgs_part hl.wide hx] at hr
    have := hr j (.int .u8 (u.toNat : Int)) (by simp [bvs, bv, hu])
    rwa [Nat.zero_add] at this
  have hfr : Y.frozen? ⟨g, i * 32 + j, none⟩ = false := by
    rcases hown7.2 with ⟨_, e⟩ | ⟨g', cap, cur, e, h1, h2, _⟩
    · omega
    · cases e; exact blk_frozen h2 _
  have hset := own_set hown7 (k := i * 32 + j) (by rw [hdgl]; have : (i + 1) * 32 ≤ n * 32 := Nat.mul_le_mul_right _ hin; omega) (bv (u ^^^ V))
  rw [← dgs_set l i j (u ^^^ V) hl.wide (by omega) hj32] at hset
  have hmw := turnD_wide (i := i) (j := j) (v := u ^^^ V) hl.wide (by omega)
  have hml := turnD_len l i j (u ^^^ V)
  have hne : l ≠ turnD l i j (u ^^^ V) := turnD_ne hl.wide (by omega) hj32 (by rw [hxu]; exact fun e => xor_ne hV0 e.symm)
  obtain ⟨m, hm⟩ : ∃ q, turnD l i j (u ^^^ V) = q := ⟨_, rfl⟩
  rw [hm] at hset hmw hml hne
  have hlens := allN_lens hml
  have hroot := fun h => turn_root hl.wide hmw hml.symm (by omega) hne h
  have hxor := xor_u8 u V
  have d1 : (a : Int).tmod (n : Int) = (i : Int) := by rw [Int.tmod_eq_emod_of_nonneg (by omega)]; omega
  have d2 : (d : Int).tmod 32 = (j : Int) := by rw [Int.tmod_eq_emod_of_nonneg (by omega)]; omega
  have d3 : (d : Int).tmod 255 = (d : Int) % 255 := Int.tmod_eq_emod_of_nonneg (by omega)
  have d4 : (a : Int) % (n : Int) = (i : Int) := by omega
  have d5 : (d : Int) % 32 = (j : Int) := by omega
  have d6 : IntKind.u8.wrap (1 + (d : Int) % 255) = (V.toNat : Int) := by rw [IntKind.wrap_u8]; omega
  have d7 : (i : Int) < (n : Int) := by omega
  have d8 : (j : Int) < 32 := by omega
  have d9 : IntKind.i64.wrap (i : Int) = i := wrap_small _ (by omega) (by omega)
  have d10 : IntKind.u8.wrap (j : Int) = j := by rw [IntKind.wrap_u8]; omega
  have HH := Lib.hid (And.intro hl (And.intro hbY (And.intro hset (And.intro hmw (And.intro hml (And.intro hlens hroot))))))
  have HV := Lib.hid hV
  clear hl hown7 hg7 hat7 hbY hset hmw hml hlens hroot hx hxl hu hV hV0 hxu hdgl hne hm hown0 hbU hi hj hln
  go_enter Try.func5, Try.ntmps5
  go_upto_region 3 with (fail)
  go_wp2_with (first | rw [hU] | fail)
  go_region
  obtain ⟨X, hX⟩ : ∃ X, (Y.setCell ⟨g, i * 32 + j, none⟩ (.int .u8 ((u.toNat ^^^ V.toNat : Nat) : Int))).drew = X := ⟨_, rfl⟩
  rw [hX]
  have hxv : ((u.toNat ^^^ V.toNat : Nat) : Int) = (((u ^^^ V).toNat : Nat) : Int) := by rw [UInt8.toNat_xor]
  obtain ⟨hl, hbY, hset, hmw, hml, hlens, hroot⟩ := HH.out
  have hBX : Below w.heap.size w X := by rw [← hX]; exact (hbY.setCell hgb _).drew
  have hownX : X.ownsRow w.heap.size 40 32 (.slice (some ⟨g, 0, none⟩) n c7) n (dgs m) := by rw [← hX, hxv]; exact hset
  have hlX := hl.nxt hBX
  have hmX := DgAt.of_own hownX (by rw [hml, hl.len]) hmw
  have hn1 := allnodes_any X hlX (by omega)
  have hn2 := fun W (h : Below X.heap.size X W) => allnodes_any W (hmX.nxt h) (by omega)
  have hsm1 := allN_small hl.wide
  have hsm2 := allN_small hmw
  have hln1 := allN_len l
  obtain ⟨na, has⟩ : ∃ q, allN l = q := ⟨_, rfl⟩
  obtain ⟨nb, hbs⟩ : ∃ q, allN m = q := ⟨_, rfl⟩
  rw [has] at hn1 hsm1 hln1 hroot hlens
  rw [hbs] at hsm2 hroot hlens
  simp only [hbs] at hn2
  have HR := Lib.hid (And.intro hlX (And.intro hmX (And.intro hBX (And.intro hsm1 (And.intro hsm2 (And.intro hlens hroot))))))
  clear hX hxv hl hbY hset hmw hml hlens hroot hBX hownX hlX hmX hsm1 hsm2 has hbs HH d1 d2 d3 d4 d5 d6 d7 d8 d9 d10 hcell hfr hxor hU hrun HV hgb hin hj32
  go_wp2_with fail
  refine Calls.mono hn1 ?_
  rintro e W1 ⟨va, La, rfl, hna, hb1⟩
  obtain ⟨Aa, ca, rfl, -⟩ := own_form hna.own
  have hn2' := hn2 W1 hb1
  have H1 := Lib.hid (And.intro hna hb1)
  clear hn1 hn2 hna hb1
  go_wp2_with fail
  refine Calls.mono hn2' ?_
  rintro e Z ⟨vb, Lb, rfl, hnb, hb2⟩
  obtain ⟨Ab, cb, rfl, -⟩ := own_form hnb.own
  obtain ⟨hna, hb1⟩ := H1.out
  obtain ⟨hlX, hmX, hBX, hsm1, hsm2, hlens, hroot⟩ := HR.out
  have hnaZ := hna.below hb2
  have hbXZ := hb1.trans (hb2.mono hb1.size)
  have HZ := Lib.hid (And.intro (hlX.nxt hbXZ) (And.intro (hmX.nxt hbXZ) (And.intro (bNext hBX hbXZ) (And.intro hsm1 (And.intro hsm2 (And.intro hroot (And.intro hnaZ hnb)))))))
  have hlb : (nb.length : Int) = (na.length : Int) := by omega
  have hlbn : nb.length ≤ 7000 := by omega
  clear hn2' hna hb1 hlX hmX hBX hsm1 hsm2 hroot hnaZ hbXZ hnb hb2 H1 HR
  go_wp2_with fail
  go_loopw [10] (fun s10 wr => ∃ k1 : Nat, s10 = .int .i64 k1 ∧ k1 ≤ na.length ∧ Below Z.heap.size Z wr ∧ Hid (∀ p y, p < k1 → na[p]? = some y → ∀ z ∈ nb, nK y = nK z → y = z)) (fun s10 _ => na.length - (intOf s10).toNat)
  case atStart => exact ⟨0, rfl, by omega, Below.refl _ _, Lib.hid fun p y h => absurd h (by omega)⟩
  case round =>
    rename World => wo
    obtain ⟨k1, rfl, hk1, hBo, HI⟩ := hrel
    by_cases hlt : k1 < na.length
    · have hlt' : (k1 : Int) < (na.length : Int) := by omega
      obtain ⟨ya, hya⟩ : ∃ y, na[k1]? = some y := ⟨_, List.getElem?_eq_getElem hlt⟩
      have HY := Lib.hid hya
      clear hya
      go_wp2_with fail
      go_loopw [11] (fun s11 wr => ∃ k2 : Nat, s11 = .int .i64 k2 ∧ k2 ≤ nb.length ∧ Below Z.heap.size Z wr ∧ Hid (∀ q z, q < k2 → nb[q]? = some z → nK ya = nK z → ya = z)) (fun s11 _ => nb.length - (intOf s11).toNat)
      case atStart => exact ⟨0, rfl, by omega, hBo, Lib.hid fun p y h => absurd h (by omega)⟩
      case round =>
        obtain ⟨k2, rfl, hk2, hBr, HJ⟩ := hrel
        by_cases hlt2 : k2 < nb.length
        · have hlt2' : (k2 : Int) < (nb.length : Int) := by omega
          obtain ⟨-, -, hBZ, hsm1, hsm2, -, hnaZ, hnbZ⟩ := HZ.out
          have hnar := hnaZ.below hBr
          have hnbr := hnbZ.below hBr
          have hLa : La.length = na.length := by rw [← hnar.txt, ndT, List.length_map]
          have hLb : Lb.length = nb.length := by rw [← hnbr.txt, ndT, List.length_map]
          obtain ⟨xa, hxa⟩ : ∃ x, La[k1]? = some x := ⟨_, List.getElem?_eq_getElem (by omega)⟩
          obtain ⟨xb, hxb⟩ : ∃ x, Lb[k2]? = some x := ⟨_, List.getElem?_eq_getElem (by omega)⟩
          have hya : xa.2.2 = ya := by
            have h2 := HY.out
            rw [← hnar.txt, ndT, List.getElem?_map, hxa] at h2
            simpa using h2
          have hzb : Hid (nb[k2]? = some xb.2.2) := Lib.hid (by rw [← hnbr.txt, ndT, List.getElem?_map, hxb]; rfl)
          obtain ⟨ba, c2, ev, hba1, hba2, hbca, -⟩ := hnar.entry hxa
          cases ev
          obtain ⟨bb, c3, ev, hbb1, hbb2, hbcb, -⟩ := hnbr.entry hxb
          cases ev
          have hnxa := hnar.each xa (List.mem_of_getElem? hxa)
          have hnxb := hnbr.each xb (List.mem_of_getElem? hxb)
          have hla : xa.2.2.length ≤ 1000000000 := by rw [hya]; have := hsm1 _ (List.mem_of_getElem? HY.out); omega
          have hlb2 : xb.2.2.length ≤ 1000000000 := by have := hsm2 _ (List.mem_of_getElem? hzb.out); omega
          have ho1 := fun (U : World) (h : Below wr.heap.size wr U) => of_any (kind := 4) (c := xa.2.1) hla U h.size (hnxa.sl.below h)
          have ho2 := fun (U : World) (h : Below wr.heap.size wr U) => of_any (kind := 4) (c := xb.2.1) hlb2 U h.size (hnxb.sl.below h)
          rw [show u8 4 = (4 : UInt8) from by decide] at ho1 ho2
          change ∀ U, _ → Calls _ _ _ _ (Ret U (.agg (bvs (nK xa.2.2)).toArray)) at ho1
          change ∀ U, _ → Calls _ _ _ _ (Ret U (.agg (bvs (nK xb.2.2)).toArray)) at ho2
          have hby := fun (U : World) (h : Below wr.heap.size wr U) => bytes_any xa.1 xb.1 _ _ xa.2.1 xb.2.1 _ _ xa.2.2 xb.2.2 U (hnxa.sl.below h) (hnxb.sl.below h)
          have hl1 := nK_len xa.2.2
          have hl2 := nK_len xb.2.2
          have HB := Lib.hid hBr
          have HBZ := Lib.hid hBZ
          rw [← hya] at HJ
          unfold slv at hbca hbcb
          let S : World → Prop := fun w' => Below wr.heap.size wr w'
          have q1 : ∀ w', S w' → w'.cell? ⟨ba, k1, none⟩ = some (.slice xa.1 xa.2.2.length xa.2.1) := fun w' h => (Below.cell (show Below wr.heap.size wr w' from h) (p := ⟨ba, k1, none⟩) hba2).trans hbca
          have q2 : ∀ w', S w' → w'.cell? ⟨bb, k2, none⟩ = some (.slice xb.1 xb.2.2.length xb.2.1) := fun w' h => (Below.cell (show Below wr.heap.size wr w' from h) (p := ⟨bb, k2, none⟩) hbb2).trans hbcb
          have hS0 : S wr.drew := (Below.refl _ _).drew
          have g2 : IntKind.i64.wrap ((k2 : Int) + 1) = ((k2 + 1 : Nat) : Int) := by rw [wrap_small _ (by omega) (by omega)]; omega
          clear hBZ hsm1 hsm2 hnaZ hnbZ hnar hnbr hLa hLb hxa hxb hba1 hbb1 hbca hbcb hnxa hnxb hla hlb2 hBr
          by_cases hEq : xa.2.2 = xb.2.2
          · have HC : Hid (nK xa.2.2 = nK xb.2.2 → xa.2.2 = xb.2.2) := Lib.hid fun _ => hEq
            rw [decide_eq_true hEq] at hby
            clear hEq hl1 hl2
            generalize xa.2.2.length = na2 at *
            generalize xb.2.2.length = nb2 at *
            generalize (bvs (nK xa.2.2)).toArray = R1 at *
            generalize (bvs (nK xb.2.2)).toArray = R2 at *
            go_upto_region 14 with (fail)
            refine wp_region_held (S := S) (by kernel_rfl) ?_
            change wpAnyH _ _ _ _ S _ _ _ wr.drew
            change At 0 _
            iterate 8 (first | (apply tkA; (case hi => (simp only [List.getElem?_toArray, List.getElem?_cons_zero, List.getElem?_cons_succ]; rfl)); (case hw => rfl); (case hy => (intro w' hSw; have p1 := q1 w' hSw; have p2 := q2 w' hSw; (try simp only [S] at hSw); go_simp; (try with_reducible rfl))); (case hs => kernel_rfl); (case hf => kernel_rfl); (case hr => kernel_rfl); (case hQ => exact fun _ _ _ h => h); (case hS => assumption); (try simp only [Act.put, List.setIfInBounds_toArray, List.set_cons_zero, List.set_cons_succ, Nat.reduceAdd])) | (apply skA; (case hi => (simp only [List.getElem?_toArray, List.getElem?_cons_zero, List.getElem?_cons_succ]; rfl)); (case hw => rfl); (case hs => kernel_rfl); (case hf => kernel_rfl); (case hr => kernel_rfl); (case hQ => exact fun _ _ _ h => h); (case hS => assumption); (try simp only [Act.put, List.setIfInBounds_toArray, List.set_cons_zero, List.set_cons_succ, Nat.reduceAdd])))
            change wpAnyH _ _ _ _ _ _ _ _ _
            refine wpAnyH_ready (rs := [8]) (by kernel_rfl) (by simp) (AllReadyH.cons (o := ?oo8_1) ?hoo8_1 (fun K hK => ?steponly1) AllReadyH.nil); (case hoo8_1 => (simp only [List.getElem?_toArray, List.getElem?_cons_zero, List.getElem?_cons_succ]; rfl))
            go_simp
            refine Calls.mono (hby _ hS0) ?_
            rintro e U1 ⟨rfl, hbU1⟩
            have hSU1 : S U1 := by rw [← hbU1]; exact hS0
            refine hK.out _ _ hSU1 (fun _ => ?_)
            clear hK K hbU1
            (try simp only [Act.put, List.setIfInBounds_toArray, List.set_cons_zero, List.set_cons_succ])
            change At 9 _
            iterate 14 (first | (apply tkA; (case hi => (simp only [List.getElem?_toArray, List.getElem?_cons_zero, List.getElem?_cons_succ]; rfl)); (case hw => rfl); (case hy => (intro w' hSw; (try simp only [S] at hSw); go_simp; (try with_reducible rfl))); (case hs => kernel_rfl); (case hf => kernel_rfl); (case hr => kernel_rfl); (case hQ => exact fun _ _ _ h => h); (case hS => assumption); (try simp only [Act.put, List.setIfInBounds_toArray, List.set_cons_zero, List.set_cons_succ, Nat.reduceAdd])) | (apply skA; (case hi => (simp only [List.getElem?_toArray, List.getElem?_cons_zero, List.getElem?_cons_succ]; rfl)); (case hw => rfl); (case hs => kernel_rfl); (case hf => kernel_rfl); (case hr => kernel_rfl); (case hQ => exact fun _ _ _ h => h); (case hS => assumption); (try simp only [Act.put, List.setIfInBounds_toArray, List.set_cons_zero, List.set_cons_succ, Nat.reduceAdd])))
            change wpAnyH _ _ _ _ _ _ _ _ _
            refine wpAnyH_done (by kernel_rfl) ?_ _
            have HE := Lib.hid (HB.out.trans (Below.mono (show Below wr.heap.size wr _ from hSU1) (Below.size HB.out)))
            clear hSU1
            clear hS0 q1 q2 hby ho1 ho2
            go_wp2_with fail
            go_roundw
            case rel => exact ⟨k2 + 1, by go_num, by omega, HE.out, Lib.hid fun q z hq hz hk => by
              rw [← hya] at hk ⊢
              rcases Nat.lt_or_ge q k2 with h | h
              · exact HJ.out q z h hz hk
              · obtain rfl : q = k2 := by omega
                have e := hzb.out
                rw [hz] at e
                cases e
                exact HC.out hk⟩
            case measure => simp [intOf]; omega
          · rw [decide_eq_false hEq] at hby
            by_cases hK : nK xa.2.2 = nK xb.2.2
            · have hq := fun W => dg_eq hl1 W
              rw [← hK] at ho2
              clear hEq hl1 hl2 hK HY HI HJ hzb
              generalize xa.2.2.length = na2 at *
              generalize xb.2.2.length = nb2 at *
              generalize (bvs (nK xa.2.2)).toArray = R1 at *
              go_upto_region 14 with (fail)
              refine wp_region_held (S := S) (by kernel_rfl) ?_
              change wpAnyH _ _ _ _ S _ _ _ wr.drew
              change At 0 _
              iterate 8 (first | (apply tkA; (case hi => (simp only [List.getElem?_toArray, List.getElem?_cons_zero, List.getElem?_cons_succ]; rfl)); (case hw => rfl); (case hy => (intro w' hSw; have p1 := q1 w' hSw; have p2 := q2 w' hSw; (try simp only [S] at hSw); go_simp; (try with_reducible rfl))); (case hs => kernel_rfl); (case hf => kernel_rfl); (case hr => kernel_rfl); (case hQ => exact fun _ _ _ h => h); (case hS => assumption); (try simp only [Act.put, List.setIfInBounds_toArray, List.set_cons_zero, List.set_cons_succ, Nat.reduceAdd])) | (apply skA; (case hi => (simp only [List.getElem?_toArray, List.getElem?_cons_zero, List.getElem?_cons_succ]; rfl)); (case hw => rfl); (case hs => kernel_rfl); (case hf => kernel_rfl); (case hr => kernel_rfl); (case hQ => exact fun _ _ _ h => h); (case hS => assumption); (try simp only [Act.put, List.setIfInBounds_toArray, List.set_cons_zero, List.set_cons_succ, Nat.reduceAdd])))
              change wpAnyH _ _ _ _ _ _ _ _ _
              refine wpAnyH_ready (rs := [8]) (by kernel_rfl) (by simp) (AllReadyH.cons (o := ?oo8_2) ?hoo8_2 (fun K hK => ?steponly2) AllReadyH.nil); (case hoo8_2 => (simp only [List.getElem?_toArray, List.getElem?_cons_zero, List.getElem?_cons_succ]; rfl))
              go_simp
              refine Calls.mono (hby _ hS0) ?_
              rintro e U1 ⟨rfl, hbU1⟩
              have hSU1 : S U1 := by rw [← hbU1]; exact hS0
              refine hK.out _ _ hSU1 (fun _ => ?_)
              clear hK K hbU1
              (try simp only [Act.put, List.setIfInBounds_toArray, List.set_cons_zero, List.set_cons_succ])
              change At 9 _
              iterate 2 (first | (apply tkA; (case hi => (simp only [List.getElem?_toArray, List.getElem?_cons_zero, List.getElem?_cons_succ]; rfl)); (case hw => rfl); (case hy => (intro w' hSw; (try simp only [S] at hSw); go_simp; (try with_reducible rfl))); (case hs => kernel_rfl); (case hf => kernel_rfl); (case hr => kernel_rfl); (case hQ => exact fun _ _ _ h => h); (case hS => assumption); (try simp only [Act.put, List.setIfInBounds_toArray, List.set_cons_zero, List.set_cons_succ, Nat.reduceAdd])) | (apply skA; (case hi => (simp only [List.getElem?_toArray, List.getElem?_cons_zero, List.getElem?_cons_succ]; rfl)); (case hw => rfl); (case hs => kernel_rfl); (case hf => kernel_rfl); (case hr => kernel_rfl); (case hQ => exact fun _ _ _ h => h); (case hS => assumption); (try simp only [Act.put, List.setIfInBounds_toArray, List.set_cons_zero, List.set_cons_succ, Nat.reduceAdd])))
              change wpAnyH _ _ _ _ _ _ _ _ _
              change At 11 _
              iterate 4 (first | (apply tkA; (case hi => (simp only [List.getElem?_toArray, List.getElem?_cons_zero, List.getElem?_cons_succ]; rfl)); (case hw => rfl); (case hy => (intro w' hSw; have p1 := q1 w' hSw; have p2 := q2 w' hSw; (try simp only [S] at hSw); go_simp; (try with_reducible rfl))); (case hs => kernel_rfl); (case hf => kernel_rfl); (case hr => kernel_rfl); (case hQ => exact fun _ _ _ h => h); (case hS => assumption); (try simp only [Act.put, List.setIfInBounds_toArray, List.set_cons_zero, List.set_cons_succ, Nat.reduceAdd])) | (apply skA; (case hi => (simp only [List.getElem?_toArray, List.getElem?_cons_zero, List.getElem?_cons_succ]; rfl)); (case hw => rfl); (case hs => kernel_rfl); (case hf => kernel_rfl); (case hr => kernel_rfl); (case hQ => exact fun _ _ _ h => h); (case hS => assumption); (try simp only [Act.put, List.setIfInBounds_toArray, List.set_cons_zero, List.set_cons_succ, Nat.reduceAdd])))
              change wpAnyH _ _ _ _ _ _ _ _ _
              change At 16 _
              iterate 4 (first | (apply tkA; (case hi => (simp only [List.getElem?_toArray, List.getElem?_cons_zero, List.getElem?_cons_succ]; rfl)); (case hw => rfl); (case hy => (intro w' hSw; have p1 := q1 w' hSw; have p2 := q2 w' hSw; (try simp only [S] at hSw); go_simp; (try with_reducible rfl))); (case hs => kernel_rfl); (case hf => kernel_rfl); (case hr => kernel_rfl); (case hQ => exact fun _ _ _ h => h); (case hS => assumption); (try simp only [Act.put, List.setIfInBounds_toArray, List.set_cons_zero, List.set_cons_succ, Nat.reduceAdd])) | (apply skA; (case hi => (simp only [List.getElem?_toArray, List.getElem?_cons_zero, List.getElem?_cons_succ]; rfl)); (case hw => rfl); (case hs => kernel_rfl); (case hf => kernel_rfl); (case hr => kernel_rfl); (case hQ => exact fun _ _ _ h => h); (case hS => assumption); (try simp only [Act.put, List.setIfInBounds_toArray, List.set_cons_zero, List.set_cons_succ, Nat.reduceAdd])))
              change wpAnyH _ _ _ _ _ _ _ _ _
              refine wpAnyH_ready (rs := [15]) (by kernel_rfl) (by simp) (AllReadyH.cons (o := ?oo15_3) ?hoo15_3 (fun K hK => ?steponly3) AllReadyH.nil); (case hoo15_3 => (simp only [List.getElem?_toArray, List.getElem?_cons_zero, List.getElem?_cons_succ]; rfl))
              go_simp
              refine Calls.mono (ho1 _ hSU1) ?_
              rintro e U2 ⟨rfl, hbU2⟩
              have hSU2 : S U2 := (show Below wr.heap.size wr U1 from hSU1).trans (hbU2.mono (Below.size (show Below wr.heap.size wr U1 from hSU1)))
              refine hK.out _ _ hSU2 (fun _ => ?_)
              clear hK K hbU2
              (try simp only [Act.put, List.setIfInBounds_toArray, List.set_cons_zero, List.set_cons_succ])
              refine wpAnyH_ready (rs := [20]) (by kernel_rfl) (by simp) (AllReadyH.cons (o := ?oo20_4) ?hoo20_4 (fun K hK => ?steponly4) AllReadyH.nil); (case hoo20_4 => (simp only [List.getElem?_toArray, List.getElem?_cons_zero, List.getElem?_cons_succ]; rfl))
              go_simp
              refine Calls.mono (ho2 _ hSU2) ?_
              rintro e U3 ⟨rfl, hbU3⟩
              have hSU3 : S U3 := (show Below wr.heap.size wr U2 from hSU2).trans (hbU3.mono (Below.size (show Below wr.heap.size wr U2 from hSU2)))
              refine hK.out _ _ hSU3 (fun _ => ?_)
              clear hK K hbU3
              (try simp only [Act.put, List.setIfInBounds_toArray, List.set_cons_zero, List.set_cons_succ])
              change At 21 _
              iterate 2 (first | (apply tkA; (case hi => (simp only [List.getElem?_toArray, List.getElem?_cons_zero, List.getElem?_cons_succ]; rfl)); (case hw => rfl); (case hy => (intro w' hSw; (try simp only [S] at hSw); go_simp; (try with_reducible rfl))); (case hs => kernel_rfl); (case hf => kernel_rfl); (case hr => kernel_rfl); (case hQ => exact fun _ _ _ h => h); (case hS => assumption); (try simp only [Act.put, List.setIfInBounds_toArray, List.set_cons_zero, List.set_cons_succ, Nat.reduceAdd])) | (apply skA; (case hi => (simp only [List.getElem?_toArray, List.getElem?_cons_zero, List.getElem?_cons_succ]; rfl)); (case hw => rfl); (case hs => kernel_rfl); (case hf => kernel_rfl); (case hr => kernel_rfl); (case hQ => exact fun _ _ _ h => h); (case hS => assumption); (try simp only [Act.put, List.setIfInBounds_toArray, List.set_cons_zero, List.set_cons_succ, Nat.reduceAdd])))
              change wpAnyH _ _ _ _ _ _ _ _ _
              refine wpAnyH_done (by kernel_rfl) ?_ _
              have HE := Lib.hid (HB.out.trans (Below.mono (show Below wr.heap.size wr _ from hSU3) (Below.size HB.out)))
              clear hSU1 hSU2 hSU3 hS0 q1 q2 hby ho1 ho2
              go_wp2_with (first
                | (go_at_call 7; refine Calls.mono (wakes23_any _) ?_; rintro e W3 ⟨rfl, hb3⟩)
                | fail)
              go_ret
              exact Ret.mk rfl (bNext (bNext HBZ.out HE.out) hb3)
            · have hq := fun W => dg_ne hl1 hl2 hK W
              have HC : Hid (nK xa.2.2 = nK xb.2.2 → xa.2.2 = xb.2.2) := Lib.hid fun e => absurd e hK
              clear hEq hl1 hl2 hK
              generalize xa.2.2.length = na2 at *
              generalize xb.2.2.length = nb2 at *
              generalize (bvs (nK xa.2.2)).toArray = R1 at *
              generalize (bvs (nK xb.2.2)).toArray = R2 at *
              go_upto_region 14 with (fail)
              refine wp_region_held (S := S) (by kernel_rfl) ?_
              change wpAnyH _ _ _ _ S _ _ _ wr.drew
              change At 0 _
              iterate 8 (first | (apply tkA; (case hi => (simp only [List.getElem?_toArray, List.getElem?_cons_zero, List.getElem?_cons_succ]; rfl)); (case hw => rfl); (case hy => (intro w' hSw; have p1 := q1 w' hSw; have p2 := q2 w' hSw; (try simp only [S] at hSw); go_simp; (try with_reducible rfl))); (case hs => kernel_rfl); (case hf => kernel_rfl); (case hr => kernel_rfl); (case hQ => exact fun _ _ _ h => h); (case hS => assumption); (try simp only [Act.put, List.setIfInBounds_toArray, List.set_cons_zero, List.set_cons_succ, Nat.reduceAdd])) | (apply skA; (case hi => (simp only [List.getElem?_toArray, List.getElem?_cons_zero, List.getElem?_cons_succ]; rfl)); (case hw => rfl); (case hs => kernel_rfl); (case hf => kernel_rfl); (case hr => kernel_rfl); (case hQ => exact fun _ _ _ h => h); (case hS => assumption); (try simp only [Act.put, List.setIfInBounds_toArray, List.set_cons_zero, List.set_cons_succ, Nat.reduceAdd])))
              change wpAnyH _ _ _ _ _ _ _ _ _
              refine wpAnyH_ready (rs := [8]) (by kernel_rfl) (by simp) (AllReadyH.cons (o := ?oo8_5) ?hoo8_5 (fun K hK => ?steponly5) AllReadyH.nil); (case hoo8_5 => (simp only [List.getElem?_toArray, List.getElem?_cons_zero, List.getElem?_cons_succ]; rfl))
              go_simp
              refine Calls.mono (hby _ hS0) ?_
              rintro e U1 ⟨rfl, hbU1⟩
              have hSU1 : S U1 := by rw [← hbU1]; exact hS0
              refine hK.out _ _ hSU1 (fun _ => ?_)
              clear hK K hbU1
              (try simp only [Act.put, List.setIfInBounds_toArray, List.set_cons_zero, List.set_cons_succ])
              change At 9 _
              iterate 2 (first | (apply tkA; (case hi => (simp only [List.getElem?_toArray, List.getElem?_cons_zero, List.getElem?_cons_succ]; rfl)); (case hw => rfl); (case hy => (intro w' hSw; (try simp only [S] at hSw); go_simp; (try with_reducible rfl))); (case hs => kernel_rfl); (case hf => kernel_rfl); (case hr => kernel_rfl); (case hQ => exact fun _ _ _ h => h); (case hS => assumption); (try simp only [Act.put, List.setIfInBounds_toArray, List.set_cons_zero, List.set_cons_succ, Nat.reduceAdd])) | (apply skA; (case hi => (simp only [List.getElem?_toArray, List.getElem?_cons_zero, List.getElem?_cons_succ]; rfl)); (case hw => rfl); (case hs => kernel_rfl); (case hf => kernel_rfl); (case hr => kernel_rfl); (case hQ => exact fun _ _ _ h => h); (case hS => assumption); (try simp only [Act.put, List.setIfInBounds_toArray, List.set_cons_zero, List.set_cons_succ, Nat.reduceAdd])))
              change wpAnyH _ _ _ _ _ _ _ _ _
              change At 11 _
              iterate 4 (first | (apply tkA; (case hi => (simp only [List.getElem?_toArray, List.getElem?_cons_zero, List.getElem?_cons_succ]; rfl)); (case hw => rfl); (case hy => (intro w' hSw; have p1 := q1 w' hSw; have p2 := q2 w' hSw; (try simp only [S] at hSw); go_simp; (try with_reducible rfl))); (case hs => kernel_rfl); (case hf => kernel_rfl); (case hr => kernel_rfl); (case hQ => exact fun _ _ _ h => h); (case hS => assumption); (try simp only [Act.put, List.setIfInBounds_toArray, List.set_cons_zero, List.set_cons_succ, Nat.reduceAdd])) | (apply skA; (case hi => (simp only [List.getElem?_toArray, List.getElem?_cons_zero, List.getElem?_cons_succ]; rfl)); (case hw => rfl); (case hs => kernel_rfl); (case hf => kernel_rfl); (case hr => kernel_rfl); (case hQ => exact fun _ _ _ h => h); (case hS => assumption); (try simp only [Act.put, List.setIfInBounds_toArray, List.set_cons_zero, List.set_cons_succ, Nat.reduceAdd])))
              change wpAnyH _ _ _ _ _ _ _ _ _
              change At 16 _
              iterate 4 (first | (apply tkA; (case hi => (simp only [List.getElem?_toArray, List.getElem?_cons_zero, List.getElem?_cons_succ]; rfl)); (case hw => rfl); (case hy => (intro w' hSw; have p1 := q1 w' hSw; have p2 := q2 w' hSw; (try simp only [S] at hSw); go_simp; (try with_reducible rfl))); (case hs => kernel_rfl); (case hf => kernel_rfl); (case hr => kernel_rfl); (case hQ => exact fun _ _ _ h => h); (case hS => assumption); (try simp only [Act.put, List.setIfInBounds_toArray, List.set_cons_zero, List.set_cons_succ, Nat.reduceAdd])) | (apply skA; (case hi => (simp only [List.getElem?_toArray, List.getElem?_cons_zero, List.getElem?_cons_succ]; rfl)); (case hw => rfl); (case hs => kernel_rfl); (case hf => kernel_rfl); (case hr => kernel_rfl); (case hQ => exact fun _ _ _ h => h); (case hS => assumption); (try simp only [Act.put, List.setIfInBounds_toArray, List.set_cons_zero, List.set_cons_succ, Nat.reduceAdd])))
              change wpAnyH _ _ _ _ _ _ _ _ _
              refine wpAnyH_ready (rs := [15]) (by kernel_rfl) (by simp) (AllReadyH.cons (o := ?oo15_6) ?hoo15_6 (fun K hK => ?steponly6) AllReadyH.nil); (case hoo15_6 => (simp only [List.getElem?_toArray, List.getElem?_cons_zero, List.getElem?_cons_succ]; rfl))
              go_simp
              refine Calls.mono (ho1 _ hSU1) ?_
              rintro e U2 ⟨rfl, hbU2⟩
              have hSU2 : S U2 := (show Below wr.heap.size wr U1 from hSU1).trans (hbU2.mono (Below.size (show Below wr.heap.size wr U1 from hSU1)))
              refine hK.out _ _ hSU2 (fun _ => ?_)
              clear hK K hbU2
              (try simp only [Act.put, List.setIfInBounds_toArray, List.set_cons_zero, List.set_cons_succ])
              refine wpAnyH_ready (rs := [20]) (by kernel_rfl) (by simp) (AllReadyH.cons (o := ?oo20_7) ?hoo20_7 (fun K hK => ?steponly7) AllReadyH.nil); (case hoo20_7 => (simp only [List.getElem?_toArray, List.getElem?_cons_zero, List.getElem?_cons_succ]; rfl))
              go_simp
              refine Calls.mono (ho2 _ hSU2) ?_
              rintro e U3 ⟨rfl, hbU3⟩
              have hSU3 : S U3 := (show Below wr.heap.size wr U2 from hSU2).trans (hbU3.mono (Below.size (show Below wr.heap.size wr U2 from hSU2)))
              refine hK.out _ _ hSU3 (fun _ => ?_)
              clear hK K hbU3
              (try simp only [Act.put, List.setIfInBounds_toArray, List.set_cons_zero, List.set_cons_succ])
              change At 21 _
              iterate 2 (first | (apply tkA; (case hi => (simp only [List.getElem?_toArray, List.getElem?_cons_zero, List.getElem?_cons_succ]; rfl)); (case hw => rfl); (case hy => (intro w' hSw; (try simp only [S] at hSw); go_simp; (try with_reducible rfl))); (case hs => kernel_rfl); (case hf => kernel_rfl); (case hr => kernel_rfl); (case hQ => exact fun _ _ _ h => h); (case hS => assumption); (try simp only [Act.put, List.setIfInBounds_toArray, List.set_cons_zero, List.set_cons_succ, Nat.reduceAdd])) | (apply skA; (case hi => (simp only [List.getElem?_toArray, List.getElem?_cons_zero, List.getElem?_cons_succ]; rfl)); (case hw => rfl); (case hs => kernel_rfl); (case hf => kernel_rfl); (case hr => kernel_rfl); (case hQ => exact fun _ _ _ h => h); (case hS => assumption); (try simp only [Act.put, List.setIfInBounds_toArray, List.set_cons_zero, List.set_cons_succ, Nat.reduceAdd])))
              change wpAnyH _ _ _ _ _ _ _ _ _
              refine wpAnyH_done (by kernel_rfl) ?_ _
              have HE := Lib.hid (HB.out.trans (Below.mono (show Below wr.heap.size wr _ from hSU3) (Below.size HB.out)))
              clear hSU1 hSU2 hSU3
              clear hS0 q1 q2 hby ho1 ho2
              go_wp2_with fail
              go_roundw
              case rel => exact ⟨k2 + 1, by go_num, by omega, HE.out, Lib.hid fun q z hq hz hk => by
                rw [← hya] at hk ⊢
                rcases Nat.lt_or_ge q k2 with h | h
                · exact HJ.out q z h hz hk
                · obtain rfl : q = k2 := by omega
                  have e := hzb.out
                  rw [hz] at e
                  cases e
                  exact HC.out hk⟩
              case measure => simp [intOf]; omega
        · obtain rfl : k2 = nb.length := by omega
          have hend : ¬ (nb.length : Int) < (nb.length : Int) := by omega
          have g1 : IntKind.i64.wrap ((k1 : Int) + 1) = ((k1 + 1 : Nat) : Int) := by rw [wrap_small _ (by omega) (by omega)]; omega
          go_wp2_with fail
          go_roundw
          case rel => exact ⟨k1 + 1, by go_num, by omega, hBr, Lib.hid fun p y hp hy z hz => by
            rcases Nat.lt_or_ge p k1 with h | h
            · exact HI.out p y h hy z hz
            · obtain rfl : p = k1 := by omega
              rw [HY.out] at hy
              cases hy
              obtain ⟨q, hq⟩ := List.getElem?_of_mem hz
              exact HJ.out q z (List.getElem?_eq_some_iff.1 hq).1 hq⟩
          case measure => simp [intOf]; omega
    · obtain rfl : k1 = na.length := by omega
      have hend : ¬ (na.length : Int) < (na.length : Int) := by omega
      obtain ⟨hlZ, hmZ, hBZ, hsm1, hsm2, hroot, -, -⟩ := HZ.out
      have hne := hroot (fun y hy z hz => by
        obtain ⟨p, hp⟩ := List.getElem?_of_mem hy
        exact HI.out p y (List.getElem?_eq_some_iff.1 hp).1 hp z hz)
      have hr1 := root_any wo (hlZ.nxt hBo) (by omega)
      have hr2 := fun W (h : Below wo.heap.size wo W) => root_any W ((hmZ.nxt hBo).nxt h) (by omega)
      have hq := fun W => dg_ne (rootT_len l) (rootT_len m) hne W
      obtain ⟨R1, hR1⟩ : ∃ q, (bvs (rootT l)).toArray = q := ⟨_, rfl⟩
      obtain ⟨R2, hR2⟩ : ∃ q, (bvs (rootT m)).toArray = q := ⟨_, rfl⟩
      rw [hR1] at hr1
      simp only [hR2] at hr2
      simp only [hR1, hR2] at hq
      have HB := Lib.hid (bNext hBZ hBo)
      clear hlZ hmZ hBZ hsm1 hsm2 hroot hne hR1 hR2 HZ HI
      go_wp2_with fail
      refine Calls.mono hr1 ?_
      rintro e W5 ⟨rfl, hb5⟩
      have hr2' := hr2 W5 hb5
      clear hr1 hr2
      go_wp2_with fail
      refine Calls.mono hr2' ?_
      rintro e W6 ⟨rfl, hb6⟩
      clear hr2'
      go_wp2_with (first
        | (go_at_call 7; refine Calls.mono (wakes23_any _) ?_; rintro e W3 ⟨rfl, hb3⟩)
        | fail)
      go_ret
      exact Ret.mk rfl (bNext (bNext (bNext HB.out hb5) hb6) hb3)
theorem treeTurns_walk {H : Type} {enc : TypeId × Value → H} {W : World} {base : Nat} {v0 v1 v2 : Value} {d0 d1 d2 : DataW H} {p0 p1 p2 : List MemPlace}
    (k0 : Value.okWide Try.prog W .any base 22 v0) (h0 : DataW.Trod enc Try.prog W 0 (fun _ => true) true 22 v0 d0 p0)
    (k1 : Value.okWide Try.prog W .any base 5 v1) (h1 : DataW.Trod enc Try.prog W 0 (fun _ => true) true 5 v1 d1 p1)
    (k2 : Value.okWide Try.prog W .any base 5 v2) (h2 : DataW.Trod enc Try.prog W 0 (fun _ => true) true 5 v2 d2 p2)
    : Calls Try.prog 5 #[v0, v1, v2] W fun e W' => e = .returned (.bool true) ∧ Below W.heap.size W W' := by
  obtain ⟨A, n, c, l, rfl, hl⟩ := open_digests k0 h0
  obtain ⟨a, rfl, _, _, wa⟩ := open_int Try.underlying5 k1 h1
  obtain ⟨d, rfl, _, _, wd⟩ := open_int Try.underlying5 k2 h2
  have ha := wf_u8 wa
  have hd := wf_u8 wd
  by_cases h : 60 < n ∨ n = 0
  · exact big_turns W h
  · obtain ⟨a', rfl⟩ : ∃ q : Nat, a = q := ⟨a.toNat, by omega⟩
    obtain ⟨d', rfl⟩ : ∃ q : Nat, d = q := ⟨d.toNat, by omega⟩
    exact turns_core W (by omega) (by omega) hl (by omega) (by omega)
end Go.Proofs.Ytcnbonmpocddmaa
