/- codexref09.Bytes, codexref09.Signs: the walks. -/
import Derived.Test.YtiffcdeagckgmaaDoorSgPlain
import Derived.Test.YtiffcdeagckgmaaDoorMany
import Derived.Test.YtiffcdeagckgmaaDoorHeld
import Derived.Test.YtiffcdeagckgmaaDoorAp
import Derived.Test.YtiffcdeagckgmaaDoorKeep
import Derived.Deep.CutRange
import Derived.Deep.CutBlock
namespace Go.Proofs.YtiffcdeagckgmaaDoor
set_option linter.unusedSimpArgs false
set_option linter.unusedVariables false
open Go.RowKit Go.ChangeShapes Go.WideShapes Go.Sort Go.Deep
attribute [-go_sem] Builtin.append_

theorem and63 (x : Int) (h0 : 0 ≤ x) (h1 : x < 4611686018427387904) : bits .and .i64 x 63 = x % 64 :=
  bits_mask .i64 62 (by decide) (fun n a b => wrap_small n a (by omega)) 6 (by omega) x h0 (by omega)
def BytP (w : World) (v : Nat) (e : Ending) (w' : World) : Prop := ∃ A n c, e = .returned (.slice A n c) ∧ Sl w' w'.heap.size 1 A n (bvs (refB v)) ∧ Below w.heap.size w w'
theorem BytP.new {w : World} {v n : Nat} {cs : Array Value} (h : cs.toList = bvs (refB v)) (hn : (refB v).length = n) : BytP w v (.returned (.slice (some ⟨w.heap.size, 0, none⟩) n n)) (w.alloc (.cells cs 5)) :=
  ⟨_, _, _, rfl, by rw [← h]; exact Sl.new (sz := 1) (n := n) (heap_alloc_new w _) (by rw [h, bvs_len, hn, Nat.mul_one]), (Below.refl _ _).alloc (Nat.le_refl _) _⟩
set_option maxRecDepth 100000 in
set_option maxHeartbeats 4000000 in
theorem sbytes_any (v : Nat) (hv : v ≤ 100000000) (w : World) : Calls Tryd.prog 29 #[.int .i64 v] w (BytP w v) := by
  by_cases c0 : 1114111 < v ∨ (55296 ≤ v ∧ v ≤ 57343)
  · have hr : refB v = [] := by unfold refB; rw [if_pos (by omega)]
    have HR := Lib.hid hr
    clear hr
    by_cases c1 : 1114111 < v
    · have z1 : (1114111 : Int) < v := by omega
      go_enter Tryd.func29, Tryd.ntmps29
      go_wp2_with fail
      go_ret
      exact ⟨none, 0, 0, rfl, by rw [HR.out]; exact Sl.nil, Below.refl _ _⟩
    · have c2 : 55296 ≤ v ∧ v ≤ 57343 := by omega
      obtain ⟨c2, c3⟩ := c2
      have z1 : ¬ (1114111 : Int) < v := by omega
      have z2 : (55296 : Int) ≤ v := by omega
      have z3 : (v : Int) ≤ 57343 := by omega
      go_enter Tryd.func29, Tryd.ntmps29
      go_wp2_with fail
      go_ret
      exact ⟨none, 0, 0, rfl, by rw [HR.out]; exact Sl.nil, Below.refl _ _⟩
  · have z1 : ¬ (1114111 : Int) < v := by omega
    have hrest : ∀ l, (if (v : Int) < 128 then [u8 v] else if (v : Int) < 2048 then [u8 (192 + (v : Int) / 64), u8 (128 + (v : Int) % 64)]
      else if (v : Int) < 65536 then [u8 (224 + (v : Int) / 4096), u8 (128 + (v : Int) / 64 % 64), u8 (128 + (v : Int) % 64)] else [u8 (240 + (v : Int) / 262144), u8 (128 + (v : Int) / 4096 % 64), u8 (128 + (v : Int) / 64 % 64), u8 (128 + (v : Int) % 64)]) = l → refB v = l := fun l h => by
      unfold refB; rw [if_neg (by omega)]; exact h
    have HR := Lib.hid hrest
    clear hrest
    have y1 := and63 (v : Int) (by omega) (by omega)
    have y2 := and63 ((v : Int) / 64) (by omega) (by omega)
    have y3 := and63 ((v : Int) / 4096) (by omega) (by omega)
    obtain ⟨V, hV⟩ : ∃ V : Int, (v : Int) = V := ⟨_, rfl⟩
    have h0 : 0 ≤ V := by omega
    have hV1 : V ≤ 1114111 := by omega
    have hV2 : ¬ (55296 ≤ V ∧ V ≤ 57343) := by omega
    have x0 : ¬ V < 0 := by omega
    rw [hV] at HR y1 y2 y3 z1 ⊢
    have HP := Lib.hid hV
    clear hV c0 hv
    by_cases c1 : V < 128
    · have HC := Lib.hid (HR.out _ (if_pos c1))
      clear hV2
      go_enter Tryd.func29, Tryd.ntmps29
      go_wp2_with fail
      go_ret
      have m0 : (V) % 256 = V := by omega
      refine BytP.new ?_ (by rw [HP.out, HC.out]; rfl)
      rw [HP.out, HC.out]
      simp only [bvs, List.map_cons, List.map_nil, bv_u8, m0]
    · by_cases c2 : V < 2048
      · have HC := Lib.hid (HR.out _ ((if_neg c1).trans (if_pos c2)))
        clear hV2
        go_enter Tryd.func29, Tryd.ntmps29
        go_wp2_with fail
        go_ret
        have m0 : (192 + V / 64) % 256 = 192 + V / 64 := by omega
        have m1 : (128 + V % 64) % 256 = 128 + V % 64 := by omega
        refine BytP.new ?_ (by rw [HP.out, HC.out]; rfl)
        rw [HP.out, HC.out]
        simp only [bvs, List.map_cons, List.map_nil, bv_u8, m0, m1]
      · by_cases c3 : V < 65536
        · have HC := Lib.hid (HR.out _ ((if_neg c1).trans ((if_neg c2).trans (if_pos c3))))
          by_cases c4 : 55296 ≤ V
          · have z4 : ¬ V ≤ 57343 := by omega
            clear hV2
            go_enter Tryd.func29, Tryd.ntmps29
            go_wp2_with fail
            go_ret
            have m0 : (224 + V / 4096) % 256 = 224 + V / 4096 := by omega
            have m1 : (128 + V / 64 % 64) % 256 = 128 + V / 64 % 64 := by omega
            have m2 : (128 + V % 64) % 256 = 128 + V % 64 := by omega
            refine BytP.new ?_ (by rw [HP.out, HC.out]; rfl)
            rw [HP.out, HC.out]
            simp only [bvs, List.map_cons, List.map_nil, bv_u8, m0, m1, m2]
          · clear hV2
            go_enter Tryd.func29, Tryd.ntmps29
            go_wp2_with fail
            go_ret
            have m0 : (224 + V / 4096) % 256 = 224 + V / 4096 := by omega
            have m1 : (128 + V / 64 % 64) % 256 = 128 + V / 64 % 64 := by omega
            have m2 : (128 + V % 64) % 256 = 128 + V % 64 := by omega
            refine BytP.new ?_ (by rw [HP.out, HC.out]; rfl)
            rw [HP.out, HC.out]
            simp only [bvs, List.map_cons, List.map_nil, bv_u8, m0, m1, m2]
        · have HC := Lib.hid (HR.out _ ((if_neg c1).trans ((if_neg c2).trans (if_neg c3))))
          have z4 : ¬ V ≤ 57343 := by omega
          have z5 : 55296 ≤ V := by omega
          clear hV2
          go_enter Tryd.func29, Tryd.ntmps29
          go_wp2_with fail
          go_ret
          have m0 : (240 + V / 262144) % 256 = 240 + V / 262144 := by omega
          have m1 : (128 + V / 4096 % 64) % 256 = 128 + V / 4096 % 64 := by omega
          have m2 : (128 + V / 64 % 64) % 256 = 128 + V / 64 % 64 := by omega
          have m3 : (128 + V % 64) % 256 = 128 + V % 64 := by omega
          refine BytP.new ?_ (by rw [HP.out, HC.out]; rfl)
          rw [HP.out, HC.out]
          simp only [bvs, List.map_cons, List.map_nil, bv_u8, m0, m1, m2, m3]
theorem elemI : Elem Tryd.prog 3 1 8 := elem_of (z := .int .i64 0) (by kernel_rfl) rfl (by decide)
theorem sgV_le (l : List UInt8) : ∀ k, sgV l k < 256 * 64 ^ k
  | 0 => by
    have h := (l.getD 0 0).toNat_lt
    show sg0 _ < 256 * 1
    unfold sg0
    repeat' split
    all_goals omega
  | k + 1 => by
    have ih := sgV_le l k
    show sgV l k * 64 + _ < 256 * (64 ^ k * 64)
    omega
theorem sgN_le (b : Nat) : 1 ≤ sgN b ∧ sgN b ≤ 4 := by
  unfold sgN
  repeat' split
  all_goals omega
def SgP (w : World) (s : ByteArray) (e : Ending) (w' : World) : Prop := ∃ A n c, e = .returned (.agg #[.slice A n c, .bool (Lib.validD s.data.toList)]) ∧ Below w.heap.size w w'
set_option maxRecDepth 100000 in
set_option maxHeartbeats 16000000 in
theorem signs_any (s : ByteArray) (hN : s.size ≤ 255) (w : World) : Calls Tryd.prog 21 #[.string s] w (SgP w s) := by
  have hrz : ZeroIs Tryd.prog 56 #[.slice none 0 0, .bool false] := by unfold ZeroIs; kernel_rfl
  clear hrz
  go_enter Tryd.func21, Tryd.ntmps21
  go_wp2_with fail
  obtain ⟨W0, hW0⟩ : ∃ q, w.alloc (.cells #[.slice none 0 0, .bool false] 56) = q := ⟨_, rfl⟩
  have b0 : Below w.heap.size w W0 := by rw [← hW0]; exact (Below.refl _ _).alloc (Nat.le_refl _) _
  have r0 : W0.heap[w.heap.size]? = some (.cells #[.slice none 0 0, .bool false] 56) := by rw [← hW0]; exact heap_alloc_new _ _
  rw [hW0]
  clear hW0
  obtain ⟨N, hNN⟩ : ∃ q, s.size = q := ⟨_, rfl⟩
  rw [hNN] at hN
  have HNN := Lib.hid hNN
  clear hNN
  obtain ⟨l, hl⟩ : ∃ q, s.data.toList = q := ⟨_, rfl⟩
  have hll : l.length = N := by rw [← hl, ← HNN.out]; rfl
  have HL := Lib.hid (And.intro hl hll)
  clear hl hll
  go_loopw [3, 4] (fun s3 s4 wr => ∃ (i m : Nat) (A3 : Option Addr) (c3 : Nat), i ≤ N ∧ m ≤ i ∧ s4 = .int .i64 i ∧ s3 = .slice A3 m c3 ∧ wr.heap[w.heap.size]? = some (.cells #[.slice none 0 0, .bool false] 56) ∧ Hid (Lib.validD l = Lib.validD (l.drop i) ∧ (∃ vs : List Int, wr.ownsRow (w.heap.size + 1) 3 1 (.slice A3 m c3) m (vs.map (Value.int .i64))) ∧ Below w.heap.size w wr)) (fun _ q _ => N - (intOf q).toNat)
  case atStart => exact ⟨0, 0, none, 0, by omega, by omega, rfl, rfl, r0, Lib.hid ⟨by simp, ⟨[], World.ownsRow_nil _ _ _ _⟩, b0⟩⟩
  case round =>
    clear r0 b0
    obtain ⟨i, m, A3, c3, hi, hm, rfl, rfl, hR, HI⟩ := hrel
    by_cases hlt : i < N
    · have hlt' : i < s.size := by rw [HNN.out]; exact hlt
      have g4 : (i : Int) < s.size := by omega
      obtain ⟨bq, tq, hq⟩ : ∃ bq tq, l.drop i = bq :: tq := ⟨_, _, List.drop_eq_getElem_cons (by rw [HL.out.2]; exact hlt)⟩
      have hbq : s[i] = bq := by
        have e1 : (l.drop i)[0]? = some bq := by rw [hq]; rfl
        rw [List.getElem?_drop, Nat.add_zero, ← HL.out.1] at e1
        have e2 : s.data.toList[i]? = some s[i] := List.getElem?_eq_getElem (by rw [HL.out.1, HL.out.2]; exact hlt)
        rw [e2] at e1
        exact Option.some.inj e1
      have l0 := bq.toNat_lt
      go_upto_region 5 with (fail)
      obtain ⟨B, hB⟩ : ∃ q, bq.toNat = q := ⟨_, rfl⟩
      rw [hB] at l0 ⊢
      have hn4 := sgN_le B
      obtain ⟨n, hn⟩ : ∃ q, sgN B = q := ⟨_, rfl⟩
      rw [hn] at hn4
      obtain ⟨n1, n4⟩ := hn4
      obtain ⟨V0, hV0⟩ : ∃ q, sg0 B = q := ⟨_, rfl⟩
      have HB := Lib.hid (And.intro hq (And.intro hB (And.intro hn hV0)))
      clear hq hB hn hV0 hbq
      go_upto_block 2 with (fail)
      go_cut [6, 7] from 18 to 32 (fun s6 s7 wx => s6 = .int .i64 n ∧ s7 = .int .i64 V0 ∧ wx = wr)
      case first =>
        obtain ⟨-, -, hn, hV0⟩ := HB.out
        unfold sgN at hn
        unfold sg0 at hV0
        by_cases c1 : 240 ≤ B
        · rw [if_pos c1] at hn hV0
          have HQ := Lib.hid (And.intro hn hV0)
          have z1 : (240 : Int) ≤ B := by omega
          clear hn hV0
          go_wp2_with fail
          go_meet
          exact ⟨by rw [← HQ.out.1]; rfl, by rw [← HQ.out.2]; congr 1; omega, rfl⟩
        · by_cases c2 : 224 ≤ B
          · rw [if_neg c1, if_pos c2] at hn hV0
            have HQ := Lib.hid (And.intro hn hV0)
            have z1 : ¬ (240 : Int) ≤ B := by omega
            have z2 : (224 : Int) ≤ B := by omega
            clear hn hV0
            go_wp2_with fail
            go_meet
            exact ⟨by rw [← HQ.out.1]; rfl, by rw [← HQ.out.2]; congr 1; omega, rfl⟩
          · by_cases c3 : 192 ≤ B
            · rw [if_neg c1, if_neg c2, if_pos c3] at hn hV0
              have HQ := Lib.hid (And.intro hn hV0)
              have z1 : ¬ (240 : Int) ≤ B := by omega
              have z2 : ¬ (224 : Int) ≤ B := by omega
              have z3 : (192 : Int) ≤ B := by omega
              clear hn hV0
              go_wp2_with fail
              go_meet
              exact ⟨by rw [← HQ.out.1]; rfl, by rw [← HQ.out.2]; congr 1; omega, rfl⟩
            · rw [if_neg c1, if_neg c2, if_neg c3] at hn hV0
              have HQ := Lib.hid (And.intro hn hV0)
              have z1 : ¬ (240 : Int) ≤ B := by omega
              have z2 : ¬ (224 : Int) ≤ B := by omega
              have z3 : ¬ (192 : Int) ≤ B := by omega
              clear hn hV0
              go_wp2_with fail
              go_meet
              exact ⟨by rw [← HQ.out.1]; rfl, by rw [← HQ.out.2], rfl⟩
      case rest =>
        obtain ⟨rfl, rfl, hwz⟩ := hcut
        have hwz' := hwz.symm
        subst hwz'
        obtain ⟨hq, hB, hn, hV0⟩ := HB.out
        have hstep := sg_step bq tq
        rw [← hq, hB, hn] at hstep
        have hln : (l.drop i).length = N - i := by rw [List.length_drop, HL.out.2]
        rw [hln] at hstep
        have hsv0 : sgV (l.drop i) 0 = V0 := by
          show sg0 ((l.drop i).getD 0 0).toNat = V0
          rw [hq]
          show sg0 bq.toNat = V0
          rw [hB, hV0]
        have HST := Lib.hid (And.intro hstep (And.intro hsv0 hln))
        clear hq hB hn hV0 hstep hsv0 hln HB
        have jx : (Tryd.prog.info? 56).map (·.size) = some 2 := by kernel_rfl
        have z0 : wr.cell? ⟨w.heap.size, 0, none⟩ = some (.slice none 0 0) := blk_cell hR rfl
        have z1 : wr.cell? ⟨w.heap.size, 1, none⟩ = some (.bool false) := blk_cell hR rfl
        have f0 := blk_frozen hR 0
        have f1 := blk_frozen hR 1
        by_cases hin : i + n ≤ N
        · obtain ⟨q, hq⟩ : ∃ q, i + n = q := ⟨_, rfl⟩
          rw [hq] at hin
          have gq : (i : Int) + (n : Int) = (q : Int) := by omega
          have gs : ¬ (s.size : Int) < (q : Int) := by rw [HNN.out]; omega
          have HQ := Lib.hid hq
          clear hq
          go_wp2_with fail
          obtain ⟨wo, hwo⟩ : ∃ q, q = wr := ⟨_, rfl⟩
          subst hwo
          go_loopw [7, 8] (fun s7 s8 wi => ∃ k : Nat, 1 ≤ k ∧ k ≤ n ∧ s8 = .int .i64 k ∧ s7 = .int .i64 (sgV (l.drop i) (k - 1) : Nat) ∧ wi = wo) (fun _ q _ => n - (intOf q).toNat)
          case atStart => exact ⟨1, by omega, by omega, rfl, by rw [← HST.out.2.1], rfl⟩
          case round =>
            obtain ⟨k, hk1, hk2, rfl, rfl, hww⟩ := hrel
            have hww' := hww.symm
            subst hww'
            obtain ⟨v, hv⟩ : ∃ v, sgV (l.drop i) (k - 1) = v := ⟨_, rfl⟩
            rw [hv]
            have hvb : v < 67108864 := by
              have h1 := sgV_le (l.drop i) (k - 1)
              have h2 : 64 ^ (k - 1) ≤ 64 ^ 3 := Nat.pow_le_pow_right (by omega) (by omega)
              have h3 : 64 ^ 3 = 262144 := by decide
              rw [h3] at h2
              omega
            have HV := Lib.hid hv
            clear hv
            by_cases hkn : k < n
            · have gk : (k : Int) < n := by omega
              obtain ⟨t, ht⟩ : ∃ t, i + k = t := ⟨_, rfl⟩
              have gt : (i : Int) + (k : Int) = (t : Int) := by omega
              have htq : t < s.size := by rw [HNN.out]; have := HQ.out; omega
              have gt2 : (t : Int) < s.size := by omega
              obtain ⟨bk, hbk⟩ : ∃ q, (l.drop i).getD k 0 = q := ⟨_, rfl⟩
              have hsb : s[t] = bk := by
                have e2 : s.data.toList[t]? = some s[t] := List.getElem?_eq_getElem (by rw [HL.out.1, HL.out.2, ← HNN.out]; exact htq)
                rw [HL.out.1] at e2
                have e3 : (l.drop i)[k]? = l[t]? := by rw [List.getElem?_drop, ht]
                rw [← hbk, List.getD, e3, e2]
                rfl
              have lk := bk.toNat_lt
              have yk := and63 (bk.toNat : Int) (by omega) (by omega)
              have HT := Lib.hid (And.intro ht hbk)
              clear ht hbk
              go_wp2_with fail
              go_roundw
              case rel =>
                refine ⟨k + 1, by omega, by omega, by go_num, ?_, trivial⟩
                have e1 : k + 1 - 1 = (k - 1) + 1 := by omega
                have e2 : sgV (l.drop i) ((k - 1) + 1) = sgV (l.drop i) (k - 1) * 64 + ((l.drop i).getD ((k - 1) + 1) 0).toNat % 64 := rfl
                have e3 : (k - 1) + 1 = k := by omega
                rw [e1, e2, HV.out, e3, HT.out.2]
                rfl
              case measure => simp [intOf]; omega
            · have hkn' : k = n := by omega
              clear hkn
              go_upto_region 18 with (fail)
              have hb' := sbytes_any v (by omega)
              let S : World → Prop := fun w' => True
              have hS0 : S wo.drew := trivial
              have gi1 : (0 : Int) ≤ (i : Int) := by omega
              have gw : IntKind.i64.wrap (q : Int) = (q : Int) := wrap_small _ (by omega) (by omega)
              have gi4 : (0 : Int) ≤ (q : Int) := by omega
              have gi2 : (i : Int) ≤ (q : Int) := by omega
              have gi3 : (q : Int) ≤ (s.size : Int) := by rw [HNN.out]; omega
              refine wp_region_held (S := S) (by kernel_rfl) ?_
              change wpAnyH _ _ _ _ S _ _ _ wo.drew
              refine wpAnyH_take (i := 0) (oi := ?oi_1) (v := ?v_1) ?ho_1 ?h1_1 ?h2_1 ?h3_1 ?hq_1 (Or.inl ⟨?hw_1, ?hy_1⟩) ?hs_1 ?rest_1; (case h2_1 => kernel_rfl); (case h3_1 => kernel_rfl); (case ho_1 => (simp only [List.getElem?_toArray, List.getElem?_cons_zero, List.getElem?_cons_succ]; rfl)); (case h1_1 => kernel_rfl); (case hq_1 => exact fun _ _ _ h => h); (case hw_1 => rfl); (case hy_1 => (intro w' hSw; (try simp only [S] at hSw); go_simp; (try with_reducible rfl))); (case hs_1 => assumption); (try simp only [Act.put, List.setIfInBounds_toArray, List.set_cons_zero, List.set_cons_succ])
              refine wpAnyH_take (i := 3) (oi := ?oi_2) (v := ?v_2) ?ho_2 ?h1_2 ?h2_2 ?h3_2 ?hq_2 (Or.inl ⟨?hw_2, ?hy_2⟩) ?hs_2 ?rest_2; (case h2_2 => kernel_rfl); (case h3_2 => kernel_rfl); (case ho_2 => (simp only [List.getElem?_toArray, List.getElem?_cons_zero, List.getElem?_cons_succ]; rfl)); (case h1_2 => kernel_rfl); (case hq_2 => exact fun _ _ _ h => h); (case hw_2 => rfl); (case hy_2 => (intro w' hSw; (try simp only [S] at hSw); go_simp; (try with_reducible rfl))); (case hs_2 => assumption); (try simp only [Act.put, List.setIfInBounds_toArray, List.set_cons_zero, List.set_cons_succ])
              refine wpAnyH_take (i := 4) (oi := ?oi_3) (v := ?v_3) ?ho_3 ?h1_3 ?h2_3 ?h3_3 ?hq_3 (Or.inl ⟨?hw_3, ?hy_3⟩) ?hs_3 ?rest_3; (case h2_3 => kernel_rfl); (case h3_3 => kernel_rfl); (case ho_3 => (simp only [List.getElem?_toArray, List.getElem?_cons_zero, List.getElem?_cons_succ]; rfl)); (case h1_3 => kernel_rfl); (case hq_3 => exact fun _ _ _ h => h); (case hw_3 => rfl); (case hy_3 => (intro w' hSw; (try simp only [S] at hSw); go_simp; (try with_reducible rfl))); (case hs_3 => assumption); (try simp only [Act.put, List.setIfInBounds_toArray, List.set_cons_zero, List.set_cons_succ])
              refine wpAnyH_take (i := 5) (oi := ?oi_4) (v := ?v_4) ?ho_4 ?h1_4 ?h2_4 ?h3_4 ?hq_4 (Or.inl ⟨?hw_4, ?hy_4⟩) ?hs_4 ?rest_4; (case h2_4 => kernel_rfl); (case h3_4 => kernel_rfl); (case ho_4 => (simp only [List.getElem?_toArray, List.getElem?_cons_zero, List.getElem?_cons_succ]; rfl)); (case h1_4 => kernel_rfl); (case hq_4 => exact fun _ _ _ h => h); (case hw_4 => rfl); (case hy_4 => (intro w' hSw; (try simp only [S] at hSw); go_simp; (try with_reducible rfl))); (case hs_4 => assumption); (try simp only [Act.put, List.setIfInBounds_toArray, List.set_cons_zero, List.set_cons_succ])
              refine wpAnyH_take (i := 6) (oi := ?oi_5) (v := ?v_5) ?ho_5 ?h1_5 ?h2_5 ?h3_5 ?hq_5 (Or.inl ⟨?hw_5, ?hy_5⟩) ?hs_5 ?rest_5; (case h2_5 => kernel_rfl); (case h3_5 => kernel_rfl); (case ho_5 => (simp only [List.getElem?_toArray, List.getElem?_cons_zero, List.getElem?_cons_succ]; rfl)); (case h1_5 => kernel_rfl); (case hq_5 => exact fun _ _ _ h => h); (case hw_5 => rfl); (case hy_5 => (intro w' hSw; (try simp only [S] at hSw); go_simp; (try with_reducible rfl))); (case hs_5 => assumption); (try simp only [Act.put, List.setIfInBounds_toArray, List.set_cons_zero, List.set_cons_succ])
              refine wpAnyH_take (i := 7) (oi := ?oi_6) (v := ?v_6) ?ho_6 ?h1_6 ?h2_6 ?h3_6 ?hq_6 (Or.inl ⟨?hw_6, ?hy_6⟩) ?hs_6 ?rest_6; (case h2_6 => kernel_rfl); (case h3_6 => kernel_rfl); (case ho_6 => (simp only [List.getElem?_toArray, List.getElem?_cons_zero, List.getElem?_cons_succ]; rfl)); (case h1_6 => kernel_rfl); (case hq_6 => exact fun _ _ _ h => h); (case hw_6 => rfl); (case hy_6 => (intro w' hSw; (try simp only [S] at hSw); go_simp; (try with_reducible rfl))); (case hs_6 => assumption); (try simp only [Act.put, List.setIfInBounds_toArray, List.set_cons_zero, List.set_cons_succ])
              refine wpAnyH_take (i := 8) (oi := ?oi_7) (v := ?v_7) ?ho_7 ?h1_7 ?h2_7 ?h3_7 ?hq_7 (Or.inl ⟨?hw_7, ?hy_7⟩) ?hs_7 ?rest_7; (case h2_7 => kernel_rfl); (case h3_7 => kernel_rfl); (case ho_7 => (simp only [List.getElem?_toArray, List.getElem?_cons_zero, List.getElem?_cons_succ]; rfl)); (case h1_7 => kernel_rfl); (case hq_7 => exact fun _ _ _ h => h); (case hw_7 => rfl); (case hy_7 => (intro w' hSw; (try simp only [S] at hSw); go_simp; (try with_reducible rfl))); (case hs_7 => assumption); (try simp only [Act.put, List.setIfInBounds_toArray, List.set_cons_zero, List.set_cons_succ])
              refine wpAnyH_ready (rs := [1]) (by kernel_rfl) (by simp) (AllReadyH.cons (o := ?oo1_9) ?hoo1_9 (fun K hK => ?steponly9) AllReadyH.nil); (case hoo1_9 => (simp only [List.getElem?_toArray, List.getElem?_cons_zero, List.getElem?_cons_succ]; rfl))
              go_simp
              refine Calls.mono (hb' wo.drew) ?_
              rintro e w2 ⟨A2, n2, c2, rfl, hsl2, hb2⟩
              refine hK.out _ _ trivial (fun _ => ?_)
              clear hK K
              (try simp only [Act.put, List.setIfInBounds_toArray, List.set_cons_zero, List.set_cons_succ])
              have hcv := run_str (P := Tryd.prog) (dst := 9) hsl2 c2 Tryd.underlying25 Tryd.underlying5 Tryd.underlying9
              refine wpAnyH_ready (rs := [2]) (by kernel_rfl) (by simp) (AllReadyH.cons (o := ?oo2_10) ?hoo2_10 (fun K hK => ?steponly10) AllReadyH.nil); (case hoo2_10 => (simp only [List.getElem?_toArray, List.getElem?_cons_zero, List.getElem?_cons_succ]; rfl))
              go_simp
              refine hK.out _ _ trivial (fun _ => ?_)
              clear hK K hcv
              (try simp only [Act.put, List.setIfInBounds_toArray, List.set_cons_zero, List.set_cons_succ])
              refine wpAnyH_take (i := 9) (oi := ?oi_8) (v := ?v_8) ?ho_8 ?h1_8 ?h2_8 ?h3_8 ?hq_8 (Or.inl ⟨?hw_8, ?hy_8⟩) ?hs_8 ?rest_8; (case h2_8 => kernel_rfl); (case h3_8 => kernel_rfl); (case ho_8 => (simp only [List.getElem?_toArray, List.getElem?_cons_zero, List.getElem?_cons_succ]; rfl)); (case h1_8 => kernel_rfl); (case hq_8 => exact fun _ _ _ h => h); (case hw_8 => rfl); (case hy_8 => (intro w' hSw; (try simp only [S] at hSw); go_simp; (try with_reducible rfl))); (case hs_8 => assumption); (try simp only [Act.put, List.setIfInBounds_toArray, List.set_cons_zero, List.set_cons_succ])
              refine wpAnyH_done (by kernel_rfl) ?_ _
              obtain ⟨bv, hbv⟩ : ∃ b : Bool, (refB (v : Int) == (s.extract i q).toList) = b := ⟨_, rfl⟩
              rw [hbv]
              have hxt : (s.extract i q).toList = (l.drop i).take n := by
                have hqi : q - i = n := by have := HQ.out; omega
                rw [ByteArray.toList_eq, ByteArray.data_extract, Array.toList_extract, HL.out.1]
                simp [List.extract_eq_take_drop, hqi]
              rw [hxt] at hbv
              have hb2w : Below w.heap.size w w2 := (HI.out.2.2.drew).trans (hb2.mono HI.out.2.2.size)
              have hR2 : w2.heap[w.heap.size]? = some (.cells #[.slice none 0 0, .bool false] 56) := bBlk hb2 (Array.getElem?_eq_some_iff.1 hR).1 hR
              have hvv : sgV (l.drop i) (n - 1) = v := by rw [← hkn']; exact HV.out
              have hstep := HST.out.1
              rw [hvv] at hstep
              have HB2 := Lib.hid (And.intro hb2w (And.intro hR2 hstep))
              have HBV := Lib.hid hbv
              have HO := HI.out.2.1
              have hz2 : wo.heap.size ≤ w2.heap.size := hb2.size
              clear hxt hbv hb2w hvv hstep z0 z1 f0 f1 hS0 gi1 gi2 gi3 gi4 gw hb' hsl2
              cases bv
              · have z0 : w2.cell? ⟨w.heap.size, 0, none⟩ = some (.slice none 0 0) := blk_cell hR2 rfl
                have z1 : w2.cell? ⟨w.heap.size, 1, none⟩ = some (.bool false) := blk_cell hR2 rfl
                have f0 := blk_frozen hR2 0
                have f1 := blk_frozen hR2 1
                clear hR2 hb2 HO
                go_wp2_with fail
                refine bodyPost_ret (results_cell_row Tryd.results21 _ _ w.heap.size 56 _ (0, 0) _ ?_ (blk_set (blk_set HB2.out.2.1 0 _) 1 _) Tryd.underlying56 rfl jx) rfl ?_
                · rfl
                refine ⟨none, 0, 0, ?_, (HB2.out.1.setCell (Nat.le_refl _) _).setCell (Nat.le_refl _) _⟩
                have hv : Lib.validD s.data.toList = false := by
                  rw [HL.out.1, HI.out.1, HB2.out.2.2, if_neg (fun h => ?_)]
                  have := HBV.out
                  rw [h.2] at this
                  simp at this
                rw [hv]
                rfl
              · obtain ⟨vs, hvs⟩ := HO
                have hvs2 := own_below (own_drewN hvs 1) hb2
                have hx68 : Sl (w2.alloc (.cells #[.int .i64 (v : Int)] 3)) (w2.alloc (.cells #[.int .i64 (v : Int)] 3)).heap.size 1 (some ⟨w2.heap.size, 0, none⟩) 1 [Value.int .i64 (v : Int)] := Sl.new (sz := 1) (n := 1) (heap_alloc_new w2 _) rfl
                have hvs3 := hvs2.alloc (.cells #[.int .i64 (v : Int)] 3)
                have hlt2 := (Array.getElem?_eq_some_iff.1 hR2).1
                have hbs : w.heap.size + 1 ≤ (w2.alloc (.cells #[.int .i64 (v : Int)] 3)).heap.size := by simp; omega
                have hm5 : m ≤ 255 := by omega
                clear hR2 hb2 hvs hvs2
                go_wp2_with (first
                  | (refine wpList_app _ rfl (.tmp 66) (.tmp 68) 54 rfl (base := w.heap.size + 1) Tryd.underlying54 elemI rfl hvs3 rfl hx68 (by intro u hu; rw [List.mem_singleton.1 hu]; rfl) (by simp only [maxLen]; omega) (by omega) hbs ?_)
                  | fail)
                intro A69 c69 w69 hown69 hg69 hb69 hat69
                have hBB : Below (w.heap.size + 1) w2 w69 := ((Below.refl _ _).alloc (by omega) _).trans hb69
                have hb69w : Below w.heap.size w w69 := HB2.out.1.trans (hBB.mono (by omega))
                have hR69 : w69.heap[w.heap.size]? = some (.cells #[.slice none 0 0, .bool false] 56) := (hBB.block w.heap.size (by omega)).trans HB2.out.2.1
                have HE := Lib.hid (And.intro hown69 (And.intro hb69w hR69))
                clear hown69 hg69 hb69 hat69 hBB hb69w hR69 hx68 hvs3 hbs
                (try simp only [Act.put, List.setIfInBounds_toArray, List.set_cons_zero, List.set_cons_succ])
                go_wp2_with fail
                go_roundw
                case rel =>
                  refine ⟨q, m + 1, A69, c69, hin, by have := HQ.out; omega, by go_num, rfl, HE.out.2.2, Lib.hid ⟨?_, ⟨vs ++ [(v : Int)], by rw [List.map_append]; exact HE.out.1⟩, HE.out.2.1⟩⟩
                  have h2 := HBV.out
                  have h3 : refB (v : Int) = (l.drop i).take n := by simpa using h2
                  rw [HI.out.1, HB2.out.2.2, if_pos ⟨by have := HQ.out; omega, h3⟩, List.drop_drop, HQ.out]
                case measure => simp [intOf]; have := HQ.out; omega
        · have gs : (s.size : Int) < (i : Int) + (n : Int) := by rw [HNN.out]; omega
          have HRR := Lib.hid hR
          clear hR
          go_wp2_with fail
          refine bodyPost_ret (results_cell_row Tryd.results21 _ _ w.heap.size 56 _ (0, 0) _ ?_ (blk_set (blk_set HRR.out 0 _) 1 _) Tryd.underlying56 rfl jx) rfl ?_
          · rfl
          refine ⟨none, 0, 0, ?_, (HI.out.2.2.setCell (Nat.le_refl _) _).setCell (Nat.le_refl _) _⟩
          have hv : Lib.validD s.data.toList = false := by
            rw [HL.out.1, HI.out.1, HST.out.1, if_neg (fun h => hin (by have := h.1; omega))]
          rw [hv]
          rfl
    · have hiN : i = N := by omega
      have gs : ¬ (i : Int) < s.size := by rw [HNN.out]; omega
      have jx : (Tryd.prog.info? 56).map (·.size) = some 2 := by kernel_rfl
      have z0 : wr.cell? ⟨w.heap.size, 0, none⟩ = some (.slice none 0 0) := blk_cell hR rfl
      have z1 : wr.cell? ⟨w.heap.size, 1, none⟩ = some (.bool false) := blk_cell hR rfl
      have f0 := blk_frozen hR 0
      have f1 := blk_frozen hR 1
      have HRR := Lib.hid hR
      clear hR
      go_wp2_with fail
      refine bodyPost_ret (results_cell_row Tryd.results21 _ _ w.heap.size 56 _ (0, 0) _ ?_ (blk_set (blk_set HRR.out 0 _) 1 _) Tryd.underlying56 rfl jx) rfl ?_
      · rfl
      refine ⟨A3, m, c3, ?_, (HI.out.2.2.setCell (Nat.le_refl _) _).setCell (Nat.le_refl _) _⟩
      have hv : Lib.validD s.data.toList = true := by
        rw [HL.out.1, HI.out.1, hiN, List.drop_of_length_le (by rw [HL.out.2]; exact Nat.le_refl _)]
        rfl
      rw [hv]
      rfl
end Go.Proofs.YtiffcdeagckgmaaDoor
