/- The walks over slices.IndexFunc (at lines) and pages.eject. -/
import Derived.Test.YtdnpcplboohdpaaPgPlain
import Derived.Test.YtdnpcplboohdpaaHeld
import Derived.Test.YtdnpcplboohdpaaMany
import Derived.Test.YtdnpcplboohdpaaAuto
import Derived.Test.YtdnpcplboohdpaaChecked
import Derived.BigQuiet
import Derived.Deep.CutRange
namespace Go.Proofs.Ytdnpcplboohdpaa
set_option linter.unusedSimpArgs false
set_option linter.unusedVariables false
open Go.RowKit Go.Sort

/-! ### lines in memory -/
structure LnAt (w : World) (B : Nat) (A : Option Addr) (n c : Nat) (l : List LN) : Prop where
  len : l.length = n
  sl : Sl w B 5 A n (lns l)
  cap : n ≤ c
  wide : ∀ x ∈ l, -9223372036854775808 ≤ x.kind ∧ x.kind ≤ 9223372036854775807
theorem LnAt.below {w w' : World} {B : Nat} {A : Option Addr} {n c : Nat} {l : List LN} (h : LnAt w B A n c l) (hb : Below B w w') : LnAt w' B A n c l := ⟨h.len, h.sl.below hb, h.cap, h.wide⟩
theorem LnAt.nxt {w w' : World} {A : Option Addr} {n c : Nat} {l : List LN} (h : LnAt w w.heap.size A n c l) (hb : Below w.heap.size w w') : LnAt w' w'.heap.size A n c l := ⟨h.len, h.sl.next hb, h.cap, h.wide⟩
theorem LnAt.entry {w : World} {B : Nat} {A : Option Addr} {n c : Nat} {l : List LN} (h : LnAt w B A n c l) {k : Nat} {x : LN} (hx : l[k]? = some x) : ∃ b o, A = some ⟨b, o, none⟩ ∧ b < B ∧ w.rangeAt b (o + k * 5) x.cells := by
  obtain ⟨hk, -⟩ := List.getElem?_eq_some_iff.1 hx
  obtain ⟨b, o, e, hb, hr, hc⟩ := h.sl.elem (k := k) (by rw [← h.len]; exact hk)
  rw [lns_part hx] at hc
  exact ⟨b, o, e, hb, hc⟩
theorem ln_cells {w : World} {b o : Nat} {x : LN} (h : w.rangeAt b o x.cells) : w.cell? ⟨b, o, none⟩ = some (.int .i64 x.kind) ∧ w.cell? ⟨b, o + 1, none⟩ = some (.bool x.first) ∧ w.cell? ⟨b, o + 2, none⟩ = some (.bool x.last) ∧ w.cell? ⟨b, o + 3, none⟩ = some (.bool x.over) ∧ w.cell? ⟨b, o + 4, none⟩ = some x.pv :=
  ⟨h 0 _ rfl, h 1 _ rfl, h 2 _ rfl, h 3 _ rfl, h 4 _ rfl⟩
theorem ln_size : (Try.prog.info? 45).map (·.size) = some 5 := by kernel_rfl
theorem lns_drop {l : List LN} {a : Nat} (h : a ≤ l.length) : (lns l).drop (a * 5) = lns (l.drop a) := by
  induction l generalizing a with
  | nil => simp [lns]
  | cons x l ih =>
    cases a with
    | zero => simp
    | succ a =>
      have := ih (a := a) (by simpa using h)
      rw [List.drop_succ_cons, ← this, lns, List.flatMap_cons, Nat.add_mul, Nat.one_mul, Nat.add_comm (a * 5), ← List.drop_drop]
      congr 1
theorem LnAt.cut {w : World} {B : Nat} {A : Option Addr} {n c : Nat} {l : List LN} (h : LnAt w B A n c l) {a : Nat} (ha : a ≤ n) : LnAt w B (if c = a then A else A.map (·.add (a * 5))) (n - a) (c - a) (l.drop a) := by
  have hl := h.len
  have hc := h.cap
  have h1 := h.sl.cut (lo := a) (hi := n) (cap := c) ha (Nat.le_refl _) hc
  rw [lns_drop (by omega), List.take_of_length_le (by rw [lns_len, List.length_drop]; omega)] at h1
  exact ⟨by rw [List.length_drop, hl], h1, by omega, fun x hx => h.wide x (List.mem_of_mem_drop hx)⟩
/-! ### the first eject -/
theorem fi_at {l : List LN} {k : Nat} {x : LN} (hx : l[k]? = some x) (hej : x.ej = true) (hb : ∀ j : Nat, j < k → ∀ y, l[j]? = some y → y.ej = false) : l.findIdx LN.ej = k := by
  obtain ⟨hk, rfl⟩ := List.getElem?_eq_some_iff.1 hx
  rcases Nat.lt_trichotomy (l.findIdx LN.ej) k with h | h | h
  · have h1 := hb _ h _ (List.getElem?_eq_getElem (by omega))
    have h2 := List.findIdx_getElem (xs := l) (p := LN.ej) (w := by omega)
    rw [h2] at h1
    cases h1
  · exact h
  · have := List.not_of_lt_findIdx h
    rw [hej] at this
    simp at this
theorem fi_none {l : List LN} {n : Nat} (hl : l.length = n) (hb : ∀ j : Nat, j < n → ∀ y, l[j]? = some y → y.ej = false) : l.findIdx LN.ej = n := by
  rw [← hl]
  rw [List.findIdx_eq_length]
  intro x hx
  obtain ⟨j, hj, rfl⟩ := List.getElem_of_mem hx
  exact hb j (by omega) _ (List.getElem?_eq_getElem hj)
theorem ej1_any (x : LN) (w : World) : Calls Try.prog 25 #[.agg x.cells.toArray] w (Ret w (.bool x.ej)) := by
  unfold LN.cells
  go_enter Try.func25, Try.ntmps25
  go_wp2_with fail
  go_ret
  exact Ret.mk (vbool (by unfold LN.ej; first | rfl | simp)) (by repeat (first | (with_reducible exact Below.refl _ _) | (with_reducible refine bDrewN ?_ _) | (with_reducible refine Below.drew ?_) | (with_reducible refine Below.alloc ?_ ?_ _) | (with_reducible refine Below.setCell ?_ ?_ _) | (with_reducible assumption) | go_size))
/-- the place in the slice, or -1 -/
def idxE (l : List LN) : Int := if l.findIdx LN.ej < l.length then (l.findIdx LN.ej : Nat) else -1
set_option maxRecDepth 100000 in
theorem idxf_any {A : Option Addr} {n c B : Nat} {l : List LN} (w : World) (h : LnAt w B A n c l) (hB : B ≤ w.heap.size) (hn : n ≤ 9223372036854775807) :
    Calls Try.prog 24 #[.slice A n c, .func (.func 25) #[] #[]] w (Ret w (.int .i64 (idxE l))) := by
  have hln := h.len
  have HL := Lib.hid hln
  have HH := Lib.hid h
  clear h hln
  go_enter Try.func24, Try.ntmps24
  go_wp2_with fail
  go_loopw [8] (fun i wr => ∃ k : Nat, k ≤ n ∧ i = .int .i64 k ∧ Below w.heap.size w wr ∧ ∀ j : Nat, j < k → ∀ y, l[j]? = some y → y.ej = false) (fun i _ => n - (intOf i).toNat)
  case atStart => exact ⟨0, by omega, rfl, Below.refl _ _, fun j hj => absurd hj (by omega)⟩
  case round =>
    obtain ⟨k, hk, rfl, hbr, hne⟩ := hrel
    by_cases hlt : k < n
    · obtain ⟨x, hx⟩ : ∃ x, l[k]? = some x := ⟨_, List.getElem?_eq_getElem (by rw [HL.out]; exact hlt)⟩
      obtain ⟨b, o, rfl, hbB, hxr⟩ := HH.out.entry hx
      have hi1 : (k : Int) < (n : Int) := by omega
      have hzr := hbr.size
      obtain ⟨c0, c1, c2, c3, c4⟩ := ln_cells (bRange hbr (by omega) hxr)
      have hc1 := ej1_any x wr
      unfold LN.cells at hc1
      have HX := Lib.hid (And.intro hx (And.intro hne hbr))
      clear hx hne hbr hxr
      go_wp2_with fail
      refine Calls.mono hc1 ?_
      rintro e wz ⟨rfl, hbz⟩
      have hB2 := Lib.hid (bNext HX.out.2.2 hbz)
      clear hc1 c0 c1 c2 c3 c4 hbz
      cases hej : x.ej
      · have HE := Lib.hid hej
        clear hej
        go_wp2_with fail
        go_roundw
        case rel => exact ⟨k + 1, by omega, by go_num, hB2.out, fun j hj y hy => by
          rcases Nat.lt_or_ge j k with h | h
          · exact HX.out.2.1 j h y hy
          · obtain rfl : j = k := by omega
            rw [HX.out.1] at hy
            injection hy with hy
            rw [← hy]; exact HE.out⟩
        case measure => simp [intOf]; omega
      · have hf := fi_at HX.out.1 hej HX.out.2.1
        have HE : Hid (idxE l = (k : Int)) := Lib.hid (by unfold idxE; rw [hf, HL.out, if_pos hlt])
        clear hej hf
        go_wp2_with fail
        go_ret
        exact Ret.mk (by rw [HE.out]; rfl) hB2.out
    · obtain rfl : k = n := by omega
      have hi1 : ¬ (k : Int) < (k : Int) := by omega
      have hf := fi_none HL.out hne
      have HE : Hid (idxE l = -1) := Lib.hid (by unfold idxE; rw [hf, HL.out, if_neg (by omega)])
      have HB := Lib.hid hbr
      clear hne hf hbr
      go_wp2_with fail
      go_ret
      exact Ret.mk (by rw [HE.out]; rfl) HB.out
set_option maxHeartbeats 4000000 in
set_option maxRecDepth 100000 in
theorem eject_any {A : Option Addr} {n c B a : Nat} {l : List LN} (w : World) (h : LnAt w B A n c l) (hB : B ≤ w.heap.size) (hn : n ≤ 9223372036854775807) (ha : a ≤ n) :
    Calls Try.prog 20 #[.slice A n c, .int .i64 a] w (Ret w (.int .i64 (ejP l a))) := by
  have hln := h.len
  have hcap := h.cap
  have hc := idxf_any w (h.cut ha) hB (by omega)
  have hfl : (l.drop a).findIdx LN.ej ≤ (l.drop a).length := List.findIdx_le_length
  have hdl : (l.drop a).length = n - a := by rw [List.length_drop, hln]
  rw [hdl] at hfl
  have hix : idxE (l.drop a) = if (l.drop a).findIdx LN.ej < n - a then (((l.drop a).findIdx LN.ej : Nat) : Int) else -1 := by unfold idxE; rw [hdl]
  have hej : ejP l a = a + (l.drop a).findIdx LN.ej := rfl
  obtain ⟨F, hF⟩ : ∃ F, (l.drop a).findIdx LN.ej = F := ⟨_, rfl⟩
  rw [hF] at hix hej hfl
  rw [hix] at hc
  rw [hej]
  clear hix hej hF hdl hln h
  have ha1 : (a : Int) ≤ (n : Int) := by omega
  have ha2 : (a : Int) ≤ (c : Int) := by omega
  have ha3 : (n : Int) ≤ (c : Int) := by omega
  have hend : ∀ (w1 : World) (V : Value) , True := fun _ _ => trivial
  clear hend
  by_cases hca : c = a
  · subst hca
    rw [if_pos rfl, Nat.sub_self] at hc
    have hf : ¬ F < n - c := by omega
    rw [if_neg hf] at hc
    obtain rfl : F = n - c := by omega
    have hfin : c + (n - c) = n := by omega
    rw [hfin]
    rw [show n - c = 0 from by omega] at hc
    have HF := Lib.hid (And.intro hf hfin)
    clear hf hfin
    go_enter Try.func20, Try.ntmps20
    go_wp2_with fail
    refine Calls.mono hc ?_
    rintro e wz ⟨rfl, hbz⟩
    have HB := Lib.hid hbz
    clear hbz hc
    go_wp2_with fail
    go_ret
    exact Ret.mk rfl HB.out
  · rw [if_neg hca] at hc
    by_cases hf : F < n - a
    · rw [if_pos hf] at hc
      have hne : ¬ (F : Int) = -1 := by omega
      have hsum : IntKind.i64.wrap ((a : Int) + (F : Int)) = (a : Int) + (F : Int) := wrap_small _ (by omega) (by omega)
      go_enter Try.func20, Try.ntmps20
      go_wp2_with fail
      refine Calls.mono hc ?_
      rintro e wz ⟨rfl, hbz⟩
      have HB := Lib.hid hbz
      clear hbz hc
      go_wp2_with fail
      go_ret
      exact Ret.mk (by first | rfl | simp) HB.out
    · rw [if_neg hf] at hc
      obtain rfl : F = n - a := by omega
      have hfin : a + (n - a) = n := by omega
      rw [hfin]
      have HF := Lib.hid (And.intro hf hfin)
      clear hf hfin
      go_enter Try.func20, Try.ntmps20
      go_wp2_with fail
      refine Calls.mono hc ?_
      rintro e wz ⟨rfl, hbz⟩
      have HB := Lib.hid hbz
      clear hbz hc
      go_wp2_with fail
      go_ret
      exact Ret.mk rfl HB.out
end Go.Proofs.Ytdnpcplboohdpaa
