/- tree.Decode. -/
import Derived.Test.YtcnbonmpocddmaaTrEq
import Derived.Test.YtcnbonmpocddmaaChunk
import Derived.Test.YtcnbonmpocddmaaRound
import Derived.Test.YtcnbonmpocddmaaMany
import Derived.Test.YtcnbonmpocddmaaAp
namespace Go.Proofs.Ytcnbonmpocddmaa
set_option linter.unusedSimpArgs false
set_option linter.unusedVariables false
open Go.RowKit Go.Shelf Go.Sort

/-! ### plain -/
def b0 (b : List UInt8) : UInt8 := b[0]?.getD 0
def b1 (b : List UInt8) : UInt8 := b[1]?.getD 0
def kidAt (b : List UInt8) (k : Nat) : List UInt8 := ((b.drop 2).drop (k * 32)).take 32
def kidsK (b : List UInt8) (q : Nat) : List (List UInt8) := (List.range q).map (kidAt b)
def tOk (b : List UInt8) : Bool := decide (2 ≤ b.length ∧ (b0 b).toNat ≤ 9 ∧ (b1 b).toNat ≤ 3 ∧ b.length = 2 + (b1 b).toNat * 32)
def tLv (b : List UInt8) : Nat := if tOk b then (b0 b).toNat else 0
def tKids (b : List UInt8) : List (List UInt8) := if tOk b then kidsK b (b1 b).toNat else []
def tEr (b : List UInt8) : Int := if tOk b then 0 else 11
theorem kidAt_len {b : List UInt8} {q k : Nat} (h : b.length = 2 + q * 32) (hk : k < q) : (kidAt b k).length = 32 := by
  unfold kidAt
  have : (k + 1) * 32 ≤ q * 32 := Nat.mul_le_mul_right _ hk
  rw [List.length_take, List.length_drop, List.length_drop]; omega
theorem kidsK_len (b : List UInt8) (q : Nat) : (kidsK b q).length = q := by unfold kidsK; simp
theorem kidsK_wide {b : List UInt8} {q : Nat} (h : b.length = 2 + q * 32) : ∀ x ∈ kidsK b q, x.length = 32 := by
  intro x hx
  unfold kidsK at hx
  obtain ⟨k, hk, rfl⟩ := List.mem_map.1 hx
  exact kidAt_len h (by simpa using hk)
theorem flat_parts : ∀ (q : Nat) (l : List UInt8), l.length = q * 32 → ((List.range q).map fun k => (l.drop (k * 32)).take 32).flatten = l
  | 0, l, h => by have : l = [] := List.eq_nil_of_length_eq_zero (by omega); subst this; rfl
  | q + 1, l, h => by
    rw [List.range_succ_eq_map, List.map_cons, List.flatten_cons, List.map_map]
    have := flat_parts q (l.drop 32) (by rw [List.length_drop]; omega)
    have e : ((fun k => (l.drop (k * 32)).take 32) ∘ Nat.succ) = fun k => ((l.drop 32).drop (k * 32)).take 32 := by
      funext k
      simp only [Function.comp, List.drop_drop, Nat.succ_eq_add_one, Nat.add_mul, Nat.one_mul, Nat.add_comm]
    rw [e, this, Nat.zero_mul, List.drop_zero, List.take_append_drop]
theorem kidsK_flat {b : List UInt8} {q : Nat} (h : b.length = 2 + q * 32) : (kidsK b q).flatten = b.drop 2 := flat_parts q (b.drop 2) (by rw [List.length_drop]; omega)
theorem two_front {b : List UInt8} (h : 2 ≤ b.length) : b = b0 b :: b1 b :: b.drop 2 := by
  match b, h with
  | x :: y :: l, _ => rfl
theorem node_back {b : List UInt8} {q : Nat} (h : b.length = 2 + q * 32) (hq : q ≤ 3) : (nodeB (b0 b).toNat (kidsK b q) = b) ↔ (b1 b).toNat = q := by
  have e := two_front (b := b) (by omega)
  unfold nodeB
  rw [kidsK_flat h, kidsK_len]
  constructor
  · intro h2
    have h3 : UInt8.ofNat q = b1 b := by
      rw [e] at h2
      simp only [List.drop_succ_cons, List.drop_zero, List.cons.injEq] at h2
      exact h2.2.1
    rw [← h3, UInt8.toNat_ofNat']
    omega
  · intro h2
    rw [← h2]
    simp only [UInt8.ofNat_toNat]
    exact e.symm
theorem ok_enc {b : List UInt8} {q : Nat} (h : b.length = 2 + q * 32) : tOk b = decide (encT (b0 b).toNat (kidsK b q) = some b) := by
  unfold tOk encT
  rw [kidsK_len]
  by_cases hq : q ≤ 3
  · have hb := node_back h hq
    apply decide_eq_decide.2
    by_cases h9 : (b0 b).toNat ≤ 9
    · rw [if_pos ⟨by omega, by omega, hq⟩, Option.some.injEq, Int.toNat_natCast, hb]
      omega
    · rw [if_neg (by omega)]
      constructor
      · intro h2; omega
      · intro h2; cases h2
  · rw [if_neg (by omega)]
    apply decide_eq_decide.2
    constructor
    · intro h2; omega
    · intro h2; cases h2
theorem ok_no {b : List UInt8} (h : b.length < 2 ∨ (b.length - 2) % 32 ≠ 0) : tOk b = false := by
  unfold tOk
  rw [decide_eq_false]
  intro h2
  omega

def TDec (w : World) (b : List UInt8) (e : Ending) (w' : World) : Prop :=
  ∃ A n c, e = .returned (.tuple #[.int .i64 (tLv b : Nat), .slice A n c, .int .i64 (tEr b)]) ∧ DgAt w' w'.heap.size A n c (tKids b) ∧ c ≤ maxLen ∧ Below w.heap.size w w'
theorem DgAt.nil (w : World) (B : Nat) : DgAt w B none 0 0 [] := ⟨by simp, rfl, Sl.nil, Nat.le_refl _⟩
theorem tdec_no {w w' : World} {b : List UInt8} (h : tOk b = false) (hB : Below w.heap.size w w') : TDec w b (.returned (.tuple #[.int .i64 0, .slice none 0 0, .int .i64 11])) w' := by
  refine ⟨none, 0, 0, ?_, ?_, by simp [maxLen], hB⟩
  · unfold tLv tEr; rw [h]; rfl
  · unfold tKids; rw [h]; exact DgAt.nil _ _
theorem DgAt.of_own {w : World} {base : Nat} {l : List (List UInt8)} {A : Option Addr} {n c : Nat} (h : w.ownsRow base 40 32 (.slice A n c) n (dgs l)) (hl : l.length = n) (hw : ∀ x ∈ l, x.length = 32) : DgAt w w.heap.size A n c l := by
  obtain ⟨A', c', e, hc, -⟩ := own_form h
  cases e
  exact ⟨hw, hl, Sl.of_own h, hc⟩

set_option maxHeartbeats 4000000 in
set_option maxRecDepth 100000 in
theorem tdec_short {A : Option Addr} {n c B : Nat} {l : List UInt8} (w : World) (hs : Sl w B 1 A n (bvs l)) (hm : n ≤ 1000000) (h : n < 2 ∨ (n - 2) % 32 ≠ 0) : Calls Try.prog 10 #[.slice A n c] w (TDec w l) := by
  have hl : l.length = n := by have := hs.len; rw [bvs_len] at this; omega
  have HNO := Lib.hid (ok_no (b := l) (by rw [hl]; exact h))
  clear hs hl
  by_cases h3 : n < 2
  · have i3 : (n : Int) < 2 := by omega
    clear h
    go_enter Try.func10, Try.ntmps10
    go_wp2_with fail
    go_returns
    exact tdec_no HNO.out (by repeat (first | (with_reducible exact Below.refl _ _) | (with_reducible refine bDrewN ?_ _) | (with_reducible refine Below.drew ?_) | (with_reducible refine Below.alloc ?_ ?_ _) | (with_reducible refine Below.setCell ?_ ?_ _) | (with_reducible assumption) | go_size))
  · have i3 : ¬ (n : Int) < 2 := by omega
    have i4 : IntKind.i64.wrap ((n : Int) - 2) = (n : Int) - 2 := wrap_small _ (by omega) (by omega)
    have i5 : ((n : Int) - 2).tmod 32 = (((n - 2) % 32 : Nat) : Int) := by rw [Int.tmod_eq_emod_of_nonneg (by omega)]; omega
    obtain ⟨r, hr⟩ : ∃ r, (n - 2) % 32 = r := ⟨_, rfl⟩
    rw [hr] at i5 h
    have i6 : IntKind.i64.wrap (r : Int) = (r : Int) := wrap_small _ (by omega) (by omega)
    have i7 : (r : Int) ≠ 0 := by omega
    clear h hr
    go_enter Try.func10, Try.ntmps10
    go_wp2_with fail
    go_returns
    exact tdec_no HNO.out (by repeat (first | (with_reducible exact Below.refl _ _) | (with_reducible refine bDrewN ?_ _) | (with_reducible refine Below.drew ?_) | (with_reducible refine Below.alloc ?_ ?_ _) | (with_reducible refine Below.setCell ?_ ?_ _) | (with_reducible assumption) | go_size))

theorem ofDec {w w' : World} {b : List UInt8} {A : Option Addr} {n c : Nat} (h : tOk b = true) (hd : DgAt w' w'.heap.size A n c (kidsK b (b1 b).toNat)) (hc : c ≤ maxLen) (hB : Below w.heap.size w w') : TDec w b (.returned (.tuple #[.int .i64 ((b0 b).toNat : Nat), .slice A n c, .int .i64 0])) w' := by
  refine ⟨A, n, c, ?_, ?_, hc, hB⟩
  · unfold tLv tEr; rw [h]; rfl
  · unfold tKids; rw [h]; exact hd
def kidP (b : List UInt8) {q : Nat} (pre : List (Fin q)) : List (List UInt8) := pre.map fun x => kidAt b x.1
theorem kidP_snoc (b : List UInt8) {q : Nat} (pre : List (Fin q)) (x : Fin q) : dgs (kidP b (pre ++ [x])) = dgs (kidP b pre) ++ bvs (kidAt b x.1) := by
  simp [kidP, dgs, List.flatMap_append]
theorem kidP_all (b : List UInt8) (q : Nat) : kidP b (List.finRange q) = kidsK b q := by
  unfold kidP kidsK
  apply List.ext_getElem?
  intro i
  rw [List.getElem?_map, List.getElem?_map]
  rcases Nat.lt_or_ge i q with h | h
  · rw [List.getElem?_eq_getElem (by simpa using h), List.getElem?_eq_getElem (by simpa using h)]
    simp [List.getElem_finRange, List.getElem_range]
  · rw [List.getElem?_eq_none (by simpa using h), List.getElem?_eq_none (by simpa using h)]
    rfl
theorem elemD : Elem Try.prog 40 32 32 := elem_of (z := .agg (bvs (List.replicate 32 0)).toArray) (by kernel_rfl) (by rw [show (Value.agg (bvs (List.replicate 32 0)).toArray).cells = (bvs (List.replicate 32 0)).toArray from rfl, List.size_toArray, bvs_len]; simp) (by omega)
theorem kids_own (n B m : Nat) (l : List UInt8) {q : Nat} (W1 : World) (hm : W1.heap.size ≤ m) : OwnFrom W1.heap.size (fun (pre : List (Fin q)) W => (∃ v, Boxed W B 22 v ∧ W.ownsRow n 40 32 v pre.length (dgs (kidP l pre)) ∧ True) ∧ But W1.heap.size (· = B) W1 W) :=
  ((holdsRow_own n B 22 40 32 (fun (pre : List (Fin q)) => pre.length) (fun pre => dgs (kidP l pre)) (fun _ _ => True)).from _).and (But.own (a := W1) (n := W1.heap.size) (X := (· = B)) (Nat.le_refl _) (Nat.le_refl _))
attribute [local go_sem] Oper.semAt_some
attribute [-go_sem] Builtin.append_ Instr.buildSlice
set_option maxRecDepth 100000 in
set_option maxHeartbeats 8000000 in
theorem tdec_full {b o n c B q : Nat} {l : List UInt8} (w : World) (hn : n = 2 + q * 32) (hs : Sl w B 1 (some ⟨b, o, none⟩) n (bvs l)) (hBw : B ≤ w.heap.size) (hm : n ≤ 1000000) (hnc : n ≤ c) (hcm : c ≤ maxLen) : Calls Try.prog 10 #[.slice (some ⟨b, o, none⟩) n c] w (TDec w l) := by
  have hl : l.length = n := by have := hs.len; rw [bvs_len] at this; omega
  obtain ⟨b', o', e, hb, hr⟩ := hs.at_ (by omega)
  simp only [Option.some.injEq, Addr.mk.injEq, and_true] at e
  obtain ⟨rfl, rfl⟩ := e
  have k0 : w.cell? ⟨b, o, none⟩ = some (.int .u8 ((b0 l).toNat : Int)) := hr 0 _ (by
    obtain ⟨x, t, rfl⟩ : ∃ x t, l = x :: t := by
      cases l with
      | nil => simp at hl; omega
      | cons x t => exact ⟨x, t, rfl⟩
    rfl)
  have hb2 : b < w.heap.size := by omega
  obtain ⟨o2, ho2⟩ : ∃ x, (if c = 2 then o else o + 2) = x := ⟨_, rfl⟩
  have hea : (if c = 2 then (some ⟨b, o, none⟩ : Option Addr) else some ⟨b, o + 2, none⟩) = some ⟨b, o2, none⟩ := by rw [← ho2]; split <;> rfl
  have hr2 : w.rangeAt b o2 (bvs (l.drop 2)) := by
    rw [← ho2]
    split
    · have : l.drop 2 = [] := List.drop_of_length_le (by omega)
      rw [this]; exact range_nil _ _ _
    · have := range_cut hr 2 (n - 2)
      rwa [show ((bvs l).drop 2).take (n - 2) = bvs (l.drop 2) from by rw [List.take_of_length_le (by rw [List.length_drop, bvs_len, hl]; omega)]; simp [bvs, List.map_drop]] at this
  have HL := Lib.hid (And.intro hl (And.intro hn (And.intro hr2 (And.intro hs k0))))
  have i3 : ¬ (n : Int) < 2 := by omega
  have i4 : IntKind.i64.wrap ((n : Int) - 2) = ((q * 32 : Nat) : Int) := by rw [wrap_small _ (by omega) (by omega)]; omega
  have i5 : ((q * 32 : Nat) : Int).tmod 32 = 0 := by rw [Int.tmod_eq_emod_of_nonneg (by omega)]; omega
  have i6 : (n : Int) ≤ (c : Int) := by omega
  have i7 : (2 : Int) ≤ (n : Int) := by omega
  have i8 : n - 2 = q * 32 := by omega
  unfold maxLen at hcm
  clear hl hn hr hr2 ho2 k0 hs
  refine (callsIn_wide (n := 11)).1 ?_
  refine callsIn_of_wp_marks Try.func10 rfl trivial ?_ rfl
  simp only [Try.ntmps10, List.size_toArray, List.length_cons, List.length_nil, Nat.reduceAdd, Nat.reduceSub, Array.replicate_succ, Array.replicate_zero, List.push_toArray, List.append_toArray, List.nil_append, List.cons_append]
  gi_wp2_with fail
  refine ⟨trivial, ?_⟩
  refine ((callsIn_wide (n := 10)).2 (chunk_any _ _ _ _ (by omega) _)).mono ?_
  rintro e w' ⟨rfl, rfl⟩
  gi_wp2
  generalize hW : World.alloc (World.alloc (World.alloc w _) _) _ = W1
  have hz : W1.heap.size = w.heap.size + 3 := by rw [← hW]; simp
  have bO : Boxed W1 w.heap.size 22 (.slice none 0 0) := by
    rw [← hW]; have := ((Boxed.new w 22 (.slice none 0 0)).alloc (.cells #[.slice (some ⟨b, o2, none⟩) (q * 32) (c - 2)] 23)).alloc (.cells #[.int .i64 32] 3); simpa using this
  have b1 : Boxed W1 (w.heap.size + 1) 23 (.slice (some ⟨b, o2, none⟩) (q * 32) (c - 2)) := by
    rw [← hW]; have := (Boxed.new (w.alloc (.cells #[.slice none 0 0] 22)) 23 (.slice (some ⟨b, o2, none⟩) (q * 32) (c - 2))).alloc (.cells #[.int .i64 32] 3); simpa using this
  have b2 : Boxed W1 (w.heap.size + 1 + 1) 3 (.int .i64 32) := by
    rw [← hW]; have := (Boxed.new ((w.alloc (.cells #[.slice none 0 0] 22)).alloc (.cells #[.slice (some ⟨b, o2, none⟩) (q * 32) (c - 2)] 23)) 3 (.int .i64 32)); simpa using this
  have hB0 : Below w.heap.size w W1 := by rw [← hW]; exact (((Below.refl _ w).alloc (Nat.le_refl _) _).alloc (by simp) _).alloc (by simp; omega) _
  clear hW
  gi_wp2
  refine wpIn_rangeFunc_ownG rfl (by omega) (gf := 26) (lb := #[.pointer (some ⟨w.heap.size + 1, 0, none⟩), .pointer (some ⟨w.heap.size + 1 + 1, 0, none⟩)]) rfl trivial (enters_of Try.func26 (by kernel_rfl) rfl)
    (chunk_stops (w.heap.size + 1) (w.heap.size + 1 + 1) b o2 (q * 32) (c - 2) 32 q (by omega) (by omega) (fun k => by omega) (by omega) (by omega) W1 (by omega) (by omega) b1.cell b2.cell) (fun h k => h.trans k) (fun W l o o' hl h a c => Two.obj (w := W1) (by omega) (by omega) W l o o' hl h a c) (Below.refl _ _) (fun _ => rfl)
    (fun (pre : List (Fin q)) W => (∃ v, Boxed W w.heap.size 22 v ∧ W.ownsRow W1.heap.size 40 32 v pre.length (dgs (kidP l pre)) ∧ True) ∧ But W1.heap.size (· = w.heap.size) W1 W)
    (fun _ _ _ => False)
    (kids_own _ _ _ l W1 (Nat.le_refl _))
    (fun _ _ _ _ _ hs _ _ => hs)
    ⟨⟨_, bO, World.ownsRow_nil _ _ _ _, trivial⟩, But.refl _ _ _⟩
    ?a1 ?assign ?body ?done ?stop
  case assign =>
    intro l0 x W K hK
    gi_wp2
    exact hK
  case stop => exact fun D c pre W _ _ h _ => h.elim
  case body =>
    rintro l0 pre x W ⟨⟨v, hv, hrow, -⟩, hB⟩ hlt
    have hcl : cl (q * 32) 32 x.1 = 32 := cl_full (cnt := q) (by omega) x.2
    rw [hcl]
    have hx := x.2
    obtain ⟨hl, hn, hr2, -⟩ := HL.out
    have hkl : (kidAt l x.1).length = 32 := kidAt_len (by rw [hl, hn]) hx
    have hsn := kidP_snoc l pre x
    have hrk : w.rangeAt b (o2 + x.1 * 32) (bvs (kidAt l x.1)) := by
      have := range_cut hr2 (x.1 * 32) 32
      rwa [show ((bvs (l.drop 2)).drop (x.1 * 32)).take 32 = bvs (kidAt l x.1) from by unfold kidAt; simp [bvs, List.map_drop, List.map_take]] at this
    have hrW : W.rangeAt b (o2 + x.1 * 32) (bvs (kidAt l x.1)) := hB.range (by omega) (by omega) (bRange hB0 hb2 hrk)
    obtain ⟨cs, hcs⟩ : ∃ q, bvs (kidAt l x.1) = q := ⟨_, rfl⟩
    have hcl2 : cs.length = 32 := by rw [← hcs, bvs_len, hkl]
    have hone : ∀ u ∈ cs, u.oneCell' = true := by rw [← hcs]; exact oneCell_bvs _
    rw [hcs] at hrW hsn
    clear hrk hr2 hkl hcs hl hn HL
    obtain ⟨q1, hq1⟩ : ∃ y, o2 + x.1 * 32 = y := ⟨_, rfl⟩
    rw [hq1] at hrW
    rw [hq1]
    clear hq1
    have hc := hv.cell
    have hmx : Try.prog.follows .mixedOrders = true := by kernel_rfl
    have hsz := hB.size
    obtain ⟨pn, hpn⟩ : ∃ y, pre.length = y := ⟨_, rfl⟩
    rw [hpn] at hrow hlt
    obtain ⟨U, hU⟩ : ∃ U, W.drew = U := ⟨_, rfl⟩
    have hUs : U.heap.size = W.heap.size := by rw [← hU]; rfl
    have hvU : Boxed U w.heap.size 22 v := by rw [← hU]; exact hv
    have hrowU : U.ownsRow W1.heap.size 40 32 v pn (dgs (kidP l pre)) := by rw [← hU]; exact hrow
    have hrU : U.rangeAt b q1 cs := by rw [← hU]; exact hrW
    have hBU : But W1.heap.size (· = w.heap.size) W U := by rw [← hU]; exact (But.refl _ _ W).drew
    have hkU : KeepsOthers W U := by rw [← hU]; exact KeepsOthers.drew W
    obtain ⟨A', c', w1, hrun, hown', hgrow, _⟩ := run_app (P := Try.prog) (U.alloc (.cells cs.toArray 40)) (ty := 22) (t := 22) Try.underlying22 elemD (hrowU.alloc _) (Sl.new (n := 1) (heap_alloc_new _ _) (by simpa using hcl2)) (c := 1) (by simpa using hone) (by simp only [maxLen]; omega) (by omega) (by simp; omega)
    have hBp : But W1.heap.size (· = w.heap.size) U w1 := ((But.refl _ _ U).alloc (by omega) (.cells cs.toArray 40)).grown hgrow (by simp; omega) (fun j ej => .inl (own_ge hrowU j ej))
    obtain ⟨hv1, hv2, hr3, hk2, hb3⟩ := box_append (W := U) hvU (by omega) hrowU (by omega) hown' hgrow
    have hc1 := hv1.cell
    have hcU := hvU.cell
    have hca : (U.alloc (.cells cs.toArray 40)).cell? ⟨w.heap.size, 0, none⟩ = some v := (hvU.alloc _).cell
    have hf1 := hv1.frozen
    have hbs := run_slice1 (P := Try.prog) (t := 22) dgZ Try.underlying22 (by rw [List.size_toArray, bvs_len]; rfl) (by omega) (by omega) cs hcl2 U
    have hixl : (Try.prog.info? 40).map (·.size) = some cs.length := by rw [hcl2]; exact dg_size
    have ha1 := fun (w : World) (a : Addr) (c : Nat) => run_arrayAt (P := Try.prog) Try.underlying40 a 32 c (by omega) w
    have hk3 : KeepsOthers W (w1.setCell ⟨w.heap.size, 0, none⟩ (.slice A' (pn + 1) c')) := hkU.trans hk2
    have hb4 : But W1.heap.size (· = w.heap.size) W (w1.setCell ⟨w.heap.size, 0, none⟩ (.slice A' (pn + 1) c')) := hBU.trans hb3
    have fin : KeepsFrom W1.heap.size W (w1.setCell ⟨w.heap.size, 0, none⟩ (.slice A' (pn + 1) c')) ∧ Two (w.heap.size + 1) (w.heap.size + 1 + 1) W (w1.setCell ⟨w.heap.size, 0, none⟩ (.slice A' (pn + 1) c')) ∧
        ((∃ v, Boxed (w1.setCell ⟨w.heap.size, 0, none⟩ (.slice A' (pn + 1) c')) w.heap.size 22 v ∧ (w1.setCell ⟨w.heap.size, 0, none⟩ (.slice A' (pn + 1) c')).ownsRow W1.heap.size 40 32 v (pre ++ [x]).length (dgs (kidP l (pre ++ [x]))) ∧ True) ∧
          But W1.heap.size (· = w.heap.size) W1 (w1.setCell ⟨w.heap.size, 0, none⟩ (.slice A' (pn + 1) c'))) := by
      refine ⟨hk3.from _, Two.boxed (hB.boxed (by omega) (by omega) b1) (hB.boxed (by omega) (by omega) b2) ((hB.trans hb4).boxed (by omega) (by omega) b1) ((hB.trans hb4).boxed (by omega) (by omega) b2), ⟨_, hv2, ?_, trivial⟩, hB.trans hb4⟩
      rw [List.length_append, hsn, hpn]
      exact hr3
    have FIN := Lib.hid fin
    clear fin
    let S : World → Prop := fun w' => w'.rangeAt b q1 cs
    have hS : ∀ w', But W1.heap.size (· = w.heap.size) U w' → S w' := fun w' h => h.range (by omega) (by omega) hrU
    have hS0 : S U := hrU
    have hSa : S (U.alloc (.cells cs.toArray 40)) := hS _ ((But.refl _ _ U).alloc (by omega) _)
    have hSp : S w1 := hS _ hBp
    have hSs : S (w1.setCell ⟨w.heap.size, 0, none⟩ (.slice A' (pn + 1) c')) := hS _ hb3
    clear hS hBp hUs hk3 hb4 hv1 hv2 hr3 hk2 hb3 hgrow hown' hrow hv hrW hc hsn hBU hkU hrU hvU hsz hpn bO b1 b2 hB0 hB hcl
    have hSr : ∀ w', S w' → w'.rangeAt b q1 cs := fun _ h => h
    clear_value S
    gi_wp2
    refine round_region S hmx (by kernel_rfl) (inBlock_noOut ownG_noOut) ?_
    rw [hU]
    clear hU
    change wpAnyH _ _ _ _ S _ _ _ U
    refine wpAnyH_take (i := 1) (oi := ?oi_1) (v := ?v_1) ?ho_1 ?h1_1 ?h2_1 ?h3_1 ?hq_1 (Or.inl ⟨?hw_1, ?hy_1⟩) ?hs_1 ?rest_1; (case h2_1 => kernel_rfl); (case h3_1 => kernel_rfl); (case ho_1 => (simp only [List.getElem?_toArray, List.getElem?_cons_zero, List.getElem?_cons_succ]; rfl)); (case h1_1 => kernel_rfl); (case hq_1 => exact fun _ _ _ h => h); (case hw_1 => rfl); (case hy_1 => (intro w' hSw; (try simp only [S] at hSw); go_simp; (try with_reducible rfl))); (case hs_1 => assumption); (try simp only [Act.put, List.setIfInBounds_toArray, List.set_cons_zero, List.set_cons_succ])
    refine wpAnyH_take (i := 2) (oi := ?oi_2) (v := ?v_2) ?ho_2 ?h1_2 ?h2_2 ?h3_2 ?hq_2 (Or.inl ⟨?hw_2, ?hy_2⟩) ?hs_2 ?rest_2; (case h2_2 => kernel_rfl); (case h3_2 => kernel_rfl); (case ho_2 => (simp only [List.getElem?_toArray, List.getElem?_cons_zero, List.getElem?_cons_succ]; rfl)); (case h1_2 => kernel_rfl); (case hq_2 => exact fun _ _ _ h => h); (case hw_2 => rfl); (case hy_2 => (intro w' hSw; (try simp only [S] at hSw); go_simp; (try with_reducible rfl))); (case hs_2 => assumption); (try simp only [Act.put, List.setIfInBounds_toArray, List.set_cons_zero, List.set_cons_succ])
    refine wpAnyH_take (i := 3) (oi := ?oi_3) (v := ?v_3) ?ho_3 ?h1_3 ?h2_3 ?h3_3 ?hq_3 (Or.inl ⟨?hw_3, ?hy_3⟩) ?hs_3 ?rest_3; (case h2_3 => kernel_rfl); (case h3_3 => kernel_rfl); (case ho_3 => (simp only [List.getElem?_toArray, List.getElem?_cons_zero, List.getElem?_cons_succ]; rfl)); (case h1_3 => kernel_rfl); (case hq_3 => exact fun _ _ _ h => h); (case hw_3 => rfl); (case hy_3 => (intro w' hSw; refine exec_load_row (x := .tmp 26) ?_ ?_ (hSr w' hSw) Try.underlying40 ?_ hixl <;> rfl)); (case hs_3 => assumption); (try simp only [Act.put, List.setIfInBounds_toArray, List.set_cons_zero, List.set_cons_succ])
    refine wpAnyH_ready (rs := [0, 4]) (by kernel_rfl) (by simp) (AllReadyH.cons (o := ?oo0_4) ?hoo0_4 (fun K hK => ?step0) (AllReadyH.cons (o := ?oo4_4) ?hoo4_4 (fun K hK => ?step4) AllReadyH.nil)); (case hoo0_4 => (simp only [List.getElem?_toArray, List.getElem?_cons_zero, List.getElem?_cons_succ]; rfl)); (case hoo4_4 => (simp only [List.getElem?_toArray, List.getElem?_cons_zero, List.getElem?_cons_succ]; rfl))
    case step0 =>
      go_simp
      refine hK.out _ _ hS0 (fun _ => ?_)
      clear hK K
      (try simp only [Act.put, List.setIfInBounds_toArray, List.set_cons_zero, List.set_cons_succ])
      refine wpAnyH_ready (rs := [4]) (by kernel_rfl) (by simp) (AllReadyH.cons (o := ?oo4_5) ?hoo4_5 (fun K hK => ?steponly5) AllReadyH.nil); (case hoo4_5 => (simp only [List.getElem?_toArray, List.getElem?_cons_zero, List.getElem?_cons_succ]; rfl))
      refine step_slice rfl 22 1 #[(0, .tmp 27)] rfl (by simp only [List.map_toArray, List.map_cons, List.map_nil]; exact hbs) ?_
      refine hK.out _ _ hSa (fun _ => ?_)
      clear hK K
      (try simp only [Act.put, List.setIfInBounds_toArray, List.set_cons_zero, List.set_cons_succ])
      refine wpAnyH_ready (rs := [5]) (by kernel_rfl) (by simp) (AllReadyH.cons (o := ?oo5_6) ?hoo5_6 (fun K hK => ?steponly6) AllReadyH.nil); (case hoo5_6 => (simp only [List.getElem?_toArray, List.getElem?_cons_zero, List.getElem?_cons_succ]; rfl))
      go_simp
      refine hK.out _ _ hSp (fun _ => ?_)
      clear hK K
      (try simp only [Act.put, List.setIfInBounds_toArray, List.set_cons_zero, List.set_cons_succ])
      refine wpAnyH_ready (rs := [6]) (by kernel_rfl) (by simp) (AllReadyH.cons (o := ?oo6_7) ?hoo6_7 (fun K hK => ?steponly7) AllReadyH.nil); (case hoo6_7 => (simp only [List.getElem?_toArray, List.getElem?_cons_zero, List.getElem?_cons_succ]; rfl))
      go_simp
      refine hK.out _ _ hSs (fun _ => ?_)
      clear hK K
      (try simp only [Act.put, List.setIfInBounds_toArray, List.set_cons_zero, List.set_cons_succ])
      refine wpAnyH_done (by kernel_rfl) ?_ _
      gi_wp2
      exact FIN.out
    case step4 =>
      refine step_slice rfl 22 1 #[(0, .tmp 27)] rfl (by simp only [List.map_toArray, List.map_cons, List.map_nil]; exact hbs) ?_
      refine hK.out _ _ hSa (fun _ => ?_)
      clear hK K
      (try simp only [Act.put, List.setIfInBounds_toArray, List.set_cons_zero, List.set_cons_succ])
      refine wpAnyH_ready (rs := [0]) (by kernel_rfl) (by simp) (AllReadyH.cons (o := ?oo0_8) ?hoo0_8 (fun K hK => ?steponly8) AllReadyH.nil); (case hoo0_8 => (simp only [List.getElem?_toArray, List.getElem?_cons_zero, List.getElem?_cons_succ]; rfl))
      go_simp
      refine hK.out _ _ hSa (fun _ => ?_)
      clear hK K
      (try simp only [Act.put, List.setIfInBounds_toArray, List.set_cons_zero, List.set_cons_succ])
      refine wpAnyH_ready (rs := [5]) (by kernel_rfl) (by simp) (AllReadyH.cons (o := ?oo5_9) ?hoo5_9 (fun K hK => ?steponly9) AllReadyH.nil); (case hoo5_9 => (simp only [List.getElem?_toArray, List.getElem?_cons_zero, List.getElem?_cons_succ]; rfl))
      go_simp
      refine hK.out _ _ hSp (fun _ => ?_)
      clear hK K
      (try simp only [Act.put, List.setIfInBounds_toArray, List.set_cons_zero, List.set_cons_succ])
      refine wpAnyH_ready (rs := [6]) (by kernel_rfl) (by simp) (AllReadyH.cons (o := ?oo6_10) ?hoo6_10 (fun K hK => ?steponly10) AllReadyH.nil); (case hoo6_10 => (simp only [List.getElem?_toArray, List.getElem?_cons_zero, List.getElem?_cons_succ]; rfl))
      go_simp
      refine hK.out _ _ hSs (fun _ => ?_)
      clear hK K
      (try simp only [Act.put, List.setIfInBounds_toArray, List.set_cons_zero, List.set_cons_succ])
      refine wpAnyH_done (by kernel_rfl) ?_ _
      gi_wp2
      exact FIN.out
  case done =>
    rintro D ys W hD rfl ⟨⟨v, hv, hrow, -⟩, hB⟩ hK
    obtain ⟨hl, hn, hr2, hs, k0⟩ := HL.out
    obtain ⟨A, cp, rfl, hcp, hcm2⟩ := own_form hrow
    rw [List.length_finRange, kidP_all] at hrow
    rw [List.length_finRange] at hv hcp
    rw [hn] at hl
    have hd := DgAt.of_own hrow (kidsK_len l q) (kidsK_wide hl)
    have hBW : Below w.heap.size w W := hB0.trans (hB.below (by omega) (fun k e => by omega))
    have hK0 : D ≠ w.heap.size := by omega
    have hDl := (Array.getElem?_eq_some_iff.1 hK).1
    have q0 : W.cell? ⟨b, o, none⟩ = some (.int .u8 ((b0 l).toNat : Int)) := (hBW.cell (p := ⟨b, o, none⟩) hb2).trans k0
    have hbW : b < W.heap.size := by have := hBW.size; omega
    have qc := hv.cell
    have hsW := (hs.below (hBW.mono hBw)).mono (show B ≤ W.heap.size by have := hBW.size; omega)
    have hno := ok_enc hl
    have g9 := (b0 l).toNat_lt
    have hboxlt : w.heap.size < W.heap.size := by have := hB.size; omega
    obtain ⟨g, hg⟩ : ∃ g, (b0 l).toNat = g := ⟨_, rfl⟩
    rw [hg] at q0 hno g9
    have hw8 : IntKind.i64.wrap (g : Int) = (g : Int) := wrap_small _ (by omega) (by omega)
    have henc := tenc_any (lv := (g : Int)) W hd (by omega)
    have HH := Lib.hid (And.intro hd (And.intro hBW (And.intro hK (And.intro hg (And.intro hno (And.intro hsW (And.intro hcm2 (And.intro hl (And.intro hn hrow)))))))))
    clear hd hBW hK hg hno hsW hcm2 hl hn hr2 hs k0 HL hv hrow hB bO b1 b2 hB0 i4 i5
    rcases he : encT (g : Int) (kidsK l q) with _ | x
    · rw [he] at henc
      have HE := Lib.hid he
      clear he
      gi_wp2_with fail
      refine ⟨trivial, ?_⟩
      refine (callsIn_wide.2 henc).mono ?_
      rintro e w3 ⟨rfl, hb3⟩
      obtain ⟨hd, hBW, hK, hg, hno, hsW, hcm2, hl, hn, hrow⟩ := HH.out
      have HF := Lib.hid (And.intro (bBlk hb3 hDl hK) (And.intro (hBW.trans (hb3.mono hBW.size)) (show tOk l = false by rw [hno, HE.out]; simp)))
      clear hd hBW hK hg hno hsW hcm2 hl hn hrow HH henc hb3 HE
      gi_wp2_with fail
      refine ⟨trivial, ?_⟩
      gi_wp2_with fail
      obtain ⟨hK9, hB9, hno⟩ := HF.out
      refine ⟨by simp, .inl ⟨_, _, rfl, run_takeDeferred hK9, ?_⟩⟩
      have hBp := hB9.trans (belowK_b (w := w) (Nat.le_refl _) w3 D _ (.deferred none) (by omega) hK9 rfl rfl)
      refine ⟨_, by simp [results, Try.results10, go_sem], tdec_no hno hBp⟩
    · rw [he] at henc
      have HE := Lib.hid he
      clear he
      gi_wp2_with fail
      refine ⟨trivial, ?_⟩
      refine (callsIn_wide.2 henc).mono ?_
      rintro e w3 ⟨A8, c8, rfl, hown8, hb3⟩
      obtain ⟨hd, hBW, hK, hg, hno, hsW, hcm2, hl, hn, hrow⟩ := HH.out
      have hxl : x.length ≤ 1000000000 := by
        have := HE.out
        unfold encT at this
        split at this
        · cases this
          rw [enc_len (kidsK_wide hl), kidsK_len]; omega
        · cases this
      have heq := eqb_any (c := c8) (c' := c) w3 (Sl.of_own hown8) (hsW.below hb3) (Nat.le_refl _) hb3.size hxl
      have qc3 : w3.cell? ⟨w.heap.size, 0, none⟩ = some (.slice A q cp) := (hb3.cell (p := ⟨w.heap.size, 0, none⟩) hboxlt).trans qc
      have hB3 := hBW.trans (hb3.mono hBW.size)
      have HF := Lib.hid (And.intro (bBlk hb3 hDl hK) (And.intro hB3 (And.intro (own_below hrow hb3) (And.intro (And.intro hl hb3) (And.intro hg (And.intro hcm2 (show tOk l = decide (x = l) by rw [hno, HE.out]; simp)))))))
      clear hd hBW hK hg hno hsW hcm2 hl hn hrow HH henc HE hown8 hB3 hxl qc q0
      have hb3s := hb3.size
      clear hb3
      generalize decide (x = l) = t at *
      generalize x.length = nx at *
      gi_wp2_with fail
      refine ⟨trivial, ?_⟩
      refine (callsIn_wide.2 heq).mono ?_
      rintro e w4 ⟨rfl, hb4⟩
      have hz4 := hb4.size
      have qc4 : w4.cell? ⟨w.heap.size, 0, none⟩ = some (.slice A q cp) := (hb4.cell (p := ⟨w.heap.size, 0, none⟩) (by show w.heap.size < _; omega)).trans qc3
      obtain ⟨hK3, hB3, hd3, hb3, hg, hcm2, hno⟩ := HF.out
      have hK4 := bBlk hb4 (by omega) hK3
      have hB4 := hB3.trans (hb4.mono hB3.size)
      have hd4 := own_below hd3 hb4
      have HG := Lib.hid (And.intro hK4 (And.intro hB4 (And.intro hd4 (And.intro hg (And.intro hcm2 (And.intro hno (And.intro hb3 hz4)))))))
      clear hK3 hB3 hd3 hb3 hg hcm2 hno hK4 hB4 hd4 hb4 heq qc3 HF
      cases t
      · gi_wp2_with fail
        obtain ⟨hK9, hB9, hd4, hg, hcm2, hno, hb3, hz4⟩ := HG.out
        refine ⟨by simp, .inl ⟨_, _, rfl, run_takeDeferred hK9, ?_⟩⟩
        have hBp := hB9.trans (belowK_b (w := w) (Nat.le_refl _) w4 D _ (.deferred none) (by omega) hK9 rfl rfl)
        refine ⟨_, by simp [results, Try.results10, go_sem], tdec_no hno hBp⟩
      · gi_wp2_with fail
        have qc5 : ∀ w', Below w4.heap.size w4 w' → w'.cell? ⟨w.heap.size, 0, none⟩ = some (.slice A q cp) := fun w' h => (h.cell (p := ⟨w.heap.size, 0, none⟩) (by show w.heap.size < _; omega)).trans qc4
        refine wpIn_wide.2 ?_
        go_region_held3 (Below w4.heap.size w4) (exact (by repeat (first | (with_reducible exact Below.refl _ _) | (with_reducible refine bDrewN ?_ _) | (with_reducible refine Below.drew ?_) | (with_reducible refine Below.alloc ?_ ?_ _) | (with_reducible refine Below.setCell ?_ ?_ _) | (with_reducible assumption) | go_size))) (fail)
        gi_wp2_with fail
        obtain ⟨hK9, hB9, hd4, hg, hcm2, hno, hb3, hz4⟩ := HG.out
        refine ⟨by simp, .inl ⟨_, _, rfl, run_takeDeferred (w := w4.drew) hK9, ?_⟩⟩
        have hBp := hB9.trans (belowK_b (w := w) (Nat.le_refl _) w4 D _ (.deferred none) (by omega) hK9 rfl rfl)
        have hl := hb3.1
        have hq : (b1 l).toNat = q := by
          have h2 := hno
          unfold tOk at h2
          have := of_decide_eq_true h2
          omega
        have hX : Below w.heap.size w (w4.drew.putObj D (.deferred none)) := ⟨hBp.os, hBp.tape, hBp.output, hBp.size, hBp.block⟩
        have hrw : (w4.drew.putObj D (.deferred none)).ownsRow W1.heap.size 40 32 (.slice A q cp) q (dgs (kidsK l q)) := ownsRow_putObj (W := w4.drew) hd4 _ hK9 rfl
        refine ⟨_, by simp [results, Try.results10, go_sem]; rfl, ?_⟩
        rw [← hg]
        refine ofDec hno ?_ hcm2 hX
        rw [hq]
        exact DgAt.of_own hrw (kidsK_len l q) (kidsK_wide hl)
theorem tdec_any {A : Option Addr} {n c B : Nat} {l : List UInt8} (w : World) (hs : Sl w B 1 A n (bvs l)) (hB : B ≤ w.heap.size) (hm : n ≤ 1000000) (hnc : n ≤ c) (hcm : c ≤ maxLen) : Calls Try.prog 10 #[.slice A n c] w (TDec w l) := by
  by_cases h : n < 2 ∨ (n - 2) % 32 ≠ 0
  · exact tdec_short w hs hm h
  · obtain ⟨b, o, rfl, -⟩ := hs.at_ (by omega)
    exact tdec_full (q := (n - 2) / 32) w (by omega) hs hB hm hnc hcm
end Go.Proofs.Ytcnbonmpocddmaa
