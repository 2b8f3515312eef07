/- slices.Equal at bytes. -/
import Derived.Test.YtcnbonmpocddmaaTrEnc
import Derived.Deep.CutRange
namespace Go.Proofs.Ytcnbonmpocddmaa
set_option linter.unusedSimpArgs false
set_option linter.unusedVariables false
open Go.RowKit Go.Sort

theorem bv_at {w : World} {B n : Nat} {A : Option Addr} {l : List UInt8} (h : Sl w B 1 A n (bvs l)) {k : Nat} {x : UInt8} (hx : l[k]? = some x) : ∃ b o, A = some ⟨b, o, none⟩ ∧ b < B ∧ w.cell? ⟨b, o + k, none⟩ = some (.int .u8 (x.toNat : Int)) := by
  obtain ⟨hk, -⟩ := List.getElem?_eq_some_iff.1 hx
  have hl := h.len
  rw [bvs_len] at hl
  obtain ⟨b, o, e, hb, hr⟩ := h.at_ (by omega)
  exact ⟨b, o, e, hb, hr k _ (by simp [bvs, bv, hx])⟩
set_option maxHeartbeats 8000000 in
set_option maxRecDepth 100000 in
theorem eqb_any {A A' : Option Addr} {n m c c' B B' : Nat} {la lb : List UInt8} (w : World) (ha : Sl w B 1 A n (bvs la)) (hb : Sl w B' 1 A' m (bvs lb)) (hB : B ≤ w.heap.size) (hB' : B' ≤ w.heap.size) (hn : n ≤ 1000000000) :
    Calls Try.prog 22 #[.slice A n c, .slice A' m c'] w (Ret w (.bool (decide (la = lb)))) := by
  have hln : la.length = n := by have := ha.len; rw [bvs_len] at this; omega
  have hlm : lb.length = m := by have := hb.len; rw [bvs_len] at this; omega
  have HA := Lib.hid ha
  have HB := Lib.hid hb
  by_cases hnm : n = m
  · subst hnm
    have HN := Lib.hid (And.intro hln hlm)
    clear hln hlm ha hb
    go_enter Try.func22, Try.ntmps22
    go_wp2_with fail
    go_loopw [13] (fun i wr => ∃ k : Nat, k ≤ n ∧ i = .int .i64 k ∧ Below w.heap.size w wr ∧ (∀ j : Nat, j < k → la[j]? = lb[j]?)) (fun i _ => n - (intOf i).toNat)
    case atStart => exact ⟨0, by omega, rfl, Below.refl _ _, fun j hj => absurd hj (by omega)⟩
    case round =>
      obtain ⟨k, hk, rfl, hBr, hne⟩ := hrel
      by_cases hlt : k < n
      · obtain ⟨x, hx⟩ : ∃ x, la[k]? = some x := ⟨_, List.getElem?_eq_getElem (by rw [HN.out.1]; exact hlt)⟩
        obtain ⟨y, hy⟩ : ∃ y, lb[k]? = some y := ⟨_, List.getElem?_eq_getElem (by rw [HN.out.2]; exact hlt)⟩
        obtain ⟨b, o, rfl, hbB, hxr⟩ := bv_at HA.out hx
        obtain ⟨b', o', rfl, hbB', hyr⟩ := bv_at HB.out hy
        have hi1 : (k : Int) < (n : Int) := by omega
        have g1 : IntKind.i64.wrap ((k : Int) + 1) = ((k + 1 : Nat) : Int) := by rw [wrap_small _ (by omega) (by omega)]; omega
        have hxr1 := (hBr.cell (p := ⟨b, o + k, none⟩) (by show b < _; omega)).trans hxr
        have hyr1 := (hBr.cell (p := ⟨b', o' + k, none⟩) (by show b' < _; omega)).trans hyr
        have HX := Lib.hid (And.intro hx (And.intro hy (And.intro hne hBr)))
        clear hx hy hne hxr hyr hBr
        by_cases hxy : x = y
        · subst hxy
          go_upto_region 6 with (fail)
          go_quiet (fail)
          obtain ⟨V, hV⟩ : ∃ q, wr.drewN nq = q := ⟨_, rfl⟩
          have hbV : Below wr.heap.size wr V := by rw [← hV]; exact bDrewN (Below.refl _ _) nq
          rw [hV]
          clear hV
          obtain ⟨hx, hy, hne, hBr⟩ := HX.out
          have HR := Lib.hid (And.intro hx (And.intro hy (And.intro hne (bNext hBr hbV))))
          clear hx hy hne hBr HX hxr1 hyr1 hbV
          go_wp2_with fail
          go_roundw
          case rel => exact ⟨k + 1, by omega, by go_num, HR.out.2.2.2, fun j hj => by
            rcases Nat.lt_or_ge j k with h | h
            · exact HR.out.2.2.1 j h
            · obtain rfl : j = k := by omega
              rw [HR.out.1, HR.out.2.1]⟩
          case measure => simp [intOf]; omega
        · have hxy2 : (x.toNat : Int) ≠ (y.toNat : Int) := fun e => hxy (UInt8.toNat_inj.1 (by omega))
          generalize (x.toNat : Int) = xi at hxr1 hxy2
          generalize (y.toNat : Int) = yi at hyr1 hxy2
          have hxb : (xi == yi) = false := by simpa using hxy2
          go_upto_region 6 with (fail)
          go_quiet (fail)
          obtain ⟨V, hV⟩ : ∃ q, wr.drewN nq = q := ⟨_, rfl⟩
          have hbV : Below wr.heap.size wr V := by rw [← hV]; exact bDrewN (Below.refl _ _) nq
          rw [hV]
          clear hV
          have HR := Lib.hid (And.intro HX.out (And.intro hbV hxy))
          clear HX hxr1 hyr1 hbV
          go_wp2_with fail
          go_ret
          obtain ⟨⟨hx, hy, -, hBr⟩, hbV, hxy⟩ := HR.out
          refine Ret.mk (vbool ?_) (bNext hBr hbV)
          rw [eq_comm, decide_eq_false]
          rintro e
          rw [e, hy] at hx
          injection hx with e2
          exact hxy e2.symm
      · obtain rfl : k = n := by omega
        have hi1 : ¬ (k : Int) < (k : Int) := by omega
        have HR := Lib.hid (And.intro hne hBr)
        clear hne hBr
        go_wp2_with fail
        go_ret
        refine Ret.mk (vbool ?_) HR.out.2
        rw [eq_comm, decide_eq_true]
        refine List.ext_getElem? fun j => ?_
        rcases Nat.lt_or_ge j k with h | h
        · exact HR.out.1 j h
        · rw [List.getElem?_eq_none (by rw [HN.out.1]; exact h), List.getElem?_eq_none (by rw [HN.out.2]; exact h)]
  · have e : Hid (decide (la = lb) = false) := Lib.hid (by rw [decide_eq_false]; rintro rfl; omega)
    have hnm' : (n : Int) ≠ (m : Int) := by omega
    clear hln hlm ha hb
    go_enter Try.func22, Try.ntmps22
    go_wp2_with fail
    go_ret
    exact Ret.mk (vbool e.out.symm) (by repeat (first | (with_reducible exact Below.refl _ _) | (with_reducible refine bDrewN ?_ _) | (with_reducible refine Below.drew ?_) | (with_reducible refine Below.alloc ?_ ?_ _) | (with_reducible refine Below.setCell ?_ ?_ _) | (with_reducible assumption) | go_size))
end Go.Proofs.Ytcnbonmpocddmaa
