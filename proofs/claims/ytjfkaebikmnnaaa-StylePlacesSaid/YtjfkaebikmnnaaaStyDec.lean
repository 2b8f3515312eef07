/- The walks over style.Decode and its reference. -/
import Derived.Test.YtjfkaebikmnnaaaStyRef
import Derived.Test.YtjfkaebikmnnaaaChunk
import Derived.Test.YtjfkaebikmnnaaaRound
namespace Go.Proofs.Ytjfkaebikmnnaaa
set_option linter.unusedSimpArgs false
set_option linter.unusedVariables false
open Go.RowKit Go.Shelf
attribute [local go_sem] Oper.semAt_some
attribute [-go_sem] Builtin.append_

/-- the k-th number of two bytes each -/
def nib (l : List UInt8) (k : Nat) : Int := (l[2 * k]?.getD 0).toNat * 256 + (l[2 * k + 1]?.getD 0).toNat
def nibs (l : List UInt8) (pre : List (Fin 5)) : List Value := pre.map (fun k => Value.int .i64 (nib l k.1))
def unS (l : List UInt8) : Sty := ⟨nib l 0, nib l 1, nib l 2, nib l 3, nib l 4⟩
def Sty.dec (l : List UInt8) : Option Sty := if l.length = 10 ∧ (unS l).good = true then some (unS l) else none
def decR : Option Sty → Value
  | some s => .tuple #[s.val, .int .i64 0]
  | none => .tuple #[.agg #[.int .i64 0, .int .i64 0, .int .i64 0, .int .i64 0, .int .i64 0], .int .i64 11]

theorem nib_bd (l : List UInt8) (k : Nat) : 0 ≤ nib l k ∧ nib l k ≤ 65535 := by
  have h1 := (l[2 * k]?.getD 0).toNat_lt
  have h2 := (l[2 * k + 1]?.getD 0).toNat_lt
  unfold nib; omega
theorem dec_len {l : List UInt8} (h : l.length ≠ 10) : Sty.dec l = none := if_neg fun k => h k.1

theorem dec_short (A : Option Addr) (n c : Nat) (h : n ≠ 10) (w : World) :
    Calls Try.prog 13 #[.slice A n c] w (Ret w (decR none)) := by
  have h1 : (n : Int) ≠ 10 := by omega
  go_enter Try.func13, Try.ntmps13
  go_wp2
  go_returns
  exact Ret.mk (by rfl) (by repeat (first | (with_reducible exact Below.refl _ _) | (with_reducible refine bDrewN ?_ _) | (with_reducible refine Below.drew ?_) | (with_reducible refine Below.alloc ?_ ?_ _) | (with_reducible refine Below.setCell ?_ ?_ _) | (with_reducible assumption) | go_size))
theorem rdec_short (A : Option Addr) (n c : Nat) (h : n ≠ 10) (w : World) :
    Calls Try.prog 14 #[.slice A n c] w (Ret w (decR none)) := by
  have h1 : (n : Int) ≠ 10 := by omega
  go_enter Try.func14, Try.ntmps14
  go_wp2
  go_returns
  exact Ret.mk (by rfl) (by repeat (first | (with_reducible exact Below.refl _ _) | (with_reducible refine bDrewN ?_ _) | (with_reducible refine Below.drew ?_) | (with_reducible refine Below.alloc ?_ ?_ _) | (with_reducible refine Below.setCell ?_ ?_ _) | (with_reducible assumption) | go_size))

theorem nibs_own (n B : Nat) (l : List UInt8) (W1 : World) : OwnFrom W1.heap.size (fun (pre : List (Fin 5)) W => (∃ v, Boxed W B 69 v ∧ W.ownsRow n 3 1 v pre.length (nibs l pre) ∧ True) ∧ But W1.heap.size (· = B) W1 W) :=
  ((holdsRow_own n B 69 3 1 (fun (pre : List (Fin 5)) => pre.length) (nibs l) (fun _ _ => True)).from _).and (But.own (a := W1) (n := W1.heap.size) (X := (· = B)) (Nat.le_refl _) (Nat.le_refl _))
theorem or_join (i : Nat) {x y : Int} (hi : i ≤ 40) (hx₀ : 0 ≤ x) (hx : x % 2 ^ i = 0) (hx₁ : x < 4611686018427387904) (h₀ : 0 ≤ y) (h₁ : y < 2 ^ i) (h₂ : y < 4611686018427387904) : bits .or .i64 x y = x + y :=
  bits_join .i64 62 (by decide) (fun n a b => wrap_small n a (by omega)) i x y hx₀ hx (by omega) h₀ h₁ (by omega)
theorem elemI64 : Elem Try.prog 3 1 8 := elem_of (z := .int .i64 0) (by kernel_rfl) rfl (by omega)

set_option maxRecDepth 100000 in
set_option maxHeartbeats 2000000 in
theorem dec_ten (b o c BA : Nat) (hc : 10 ≤ c) (l : List UInt8) (hl : l.length = 10) (w : World) (hBA : BA ≤ w.heap.size) (hb : b < BA) (hr : w.rangeAt b o (bvs l)) :
    Calls Try.prog 13 #[.slice (some ⟨b, o, none⟩) 10 c] w (Ret w (decR (Sty.dec l))) := by
  refine (callsIn_wide (n := 11)).1 ?_
  refine callsIn_of_wp_marks Try.func13 rfl trivial ?_ rfl
  simp only [Try.ntmps13, List.size_toArray, List.length_cons, List.length_nil, Nat.reduceAdd, Nat.reduceSub, Array.replicate_succ, Array.replicate_zero, List.push_toArray, List.append_toArray, List.nil_append, List.cons_append]
  gi_wp2_with fail
  refine ⟨trivial, ?_⟩
  refine ((callsIn_wide (n := 10)).2 (chunk_any _ _ _ _ (by omega) _)).mono ?_
  rintro e w' ⟨rfl, rfl⟩
  gi_wp2
  have hs0 := Try.underlying69
  generalize hW : World.alloc (World.alloc (World.alloc (World.alloc w _) _) _) _ = W1
  have hz : W1.heap.size = w.heap.size + 4 := by rw [← hW]; simp
  have bR : W1.heap[w.heap.size]? = some (.cells #[.int .i64 0, .int .i64 0, .int .i64 0, .int .i64 0, .int .i64 0] 23) := by
    rw [← hW]; exact (Below.heap_alloc _ _ _ (by simp; omega)).trans ((Below.heap_alloc _ _ _ (by simp; omega)).trans ((Below.heap_alloc _ _ _ (by simp)).trans (World.alloc_heap_new w _)))
  have bO : Boxed W1 (w.heap.size + 1) 69 (.slice none 0 0) := by
    rw [← hW]; have := ((Boxed.new (w.alloc (.cells #[.int .i64 0, .int .i64 0, .int .i64 0, .int .i64 0, .int .i64 0] 23)) 69 (.slice none 0 0)).alloc (.cells #[.slice (some ⟨b, o, none⟩) 10 c] 24)).alloc (.cells #[.int .i64 2] 3); simpa using this
  have b1 : Boxed W1 (w.heap.size + 1 + 1) 24 (.slice (some ⟨b, o, none⟩) 10 c) := by
    rw [← hW]; have := (Boxed.new ((w.alloc (.cells #[.int .i64 0, .int .i64 0, .int .i64 0, .int .i64 0, .int .i64 0] 23)).alloc (.cells #[.slice none 0 0] 69)) 24 (.slice (some ⟨b, o, none⟩) 10 c)).alloc (.cells #[.int .i64 2] 3); simpa using this
  have b2 : Boxed W1 (w.heap.size + 1 + 1 + 1) 3 (.int .i64 2) := by
    rw [← hW]; have := (Boxed.new (((w.alloc (.cells #[.int .i64 0, .int .i64 0, .int .i64 0, .int .i64 0, .int .i64 0] 23)).alloc (.cells #[.slice none 0 0] 69)).alloc (.cells #[.slice (some ⟨b, o, none⟩) 10 c] 24)) 3 (.int .i64 2)); simpa using this
  have hB0 : Below w.heap.size w W1 := by rw [← hW]; exact ((((Below.refl _ w).alloc (Nat.le_refl _) _).alloc (by simp) _).alloc (by simp; omega) _).alloc (by simp; omega) _
  clear hW hs0
  gi_wp2
  refine wpIn_rangeFunc_ownG rfl (by omega) (gf := 39) (lb := #[.pointer (some ⟨w.heap.size + 1 + 1, 0, none⟩), .pointer (some ⟨w.heap.size + 1 + 1 + 1, 0, none⟩)]) rfl trivial (enters_of Try.func39 (by kernel_rfl) rfl)
    (chunk_stops (w.heap.size + 1 + 1) (w.heap.size + 1 + 1 + 1) b o 10 c 2 5 (by omega) (by omega) (fun k => by omega) hc (by omega) W1 (by omega) (by omega) b1.cell b2.cell) (fun h k => h.trans k) (fun W l o o' hl h a c => Two.obj (w := W1) (by omega) (by omega) W l o o' hl h a c) (Below.refl _ _) (fun _ => rfl)
    (fun (pre : List (Fin 5)) W => (∃ v, Boxed W (w.heap.size + 1) 69 v ∧ W.ownsRow W1.heap.size 3 1 v pre.length (nibs l pre) ∧ True) ∧ But W1.heap.size (· = w.heap.size + 1) W1 W)
    (fun _ _ _ => False)
    (nibs_own _ _ l W1)
    (fun _ _ _ _ _ hs _ _ => hs)
    ⟨⟨_, bO, World.ownsRow_nil _ _ _ _, trivial⟩, But.refl _ _ _⟩
    ?a1 ?assign ?body ?done ?stop
  case assign =>
    intro l0 x W K hK
    gi_wp2
    exact hK
  case stop => exact fun D c pre W _ _ h _ => h.elim
  case body =>
    rintro l0 pre x W ⟨⟨v, hv, hrow, -⟩, hB⟩ hlt
    have hcl : cl 10 2 x.1 = 2 := cl_full (cnt := 5) (by omega) x.2
    rw [hcl]
    have hx := x.2
    have hcell : ∀ j, j < 10 → W.cell? ⟨b, o + j, none⟩ = some (bv (l[j]?.getD 0)) := fun j hj => by
      refine (World.cell?_of_block (a := ⟨b, o + j, none⟩) (hB.block b (by omega) (by omega))).trans ((hB0.cell (p := ⟨b, o + j, none⟩) (by show b < _; omega)).trans (hr j _ ?_))
      simp [bvs, hl, hj]
    have k1 := hcell (x.1 * 2) (by omega)
    have k2 := hcell (x.1 * 2 + 1) (by omega)
    rw [← Nat.add_assoc] at k2
    have hnib : nib l x.1 = (l[x.1 * 2]?.getD 0).toNat * 256 + (l[x.1 * 2 + 1]?.getD 0).toNat := by unfold nib; rw [Nat.mul_comm]
    unfold bv at k1 k2
    have p1 := (l[x.1 * 2]?.getD 0).toNat_lt
    have p2 := (l[x.1 * 2 + 1]?.getD 0).toNat_lt
    generalize (l[x.1 * 2]?.getD 0).toNat = P at *
    generalize (l[x.1 * 2 + 1]?.getD 0).toNat = Q at *
    have HN := Lib.hid hnib
    clear hnib hcell
    have hc := hv.cell
    have hmx : Try.prog.follows .mixedOrders = true := by kernel_rfl
    generalize hq : o + x.1 * 2 = q at *
    have e1 : IntKind.i64.wrap (P : Int) = P := wrap_small _ (by omega) (by omega)
    have e2 : IntKind.i64.wrap (Q : Int) = Q := wrap_small _ (by omega) (by omega)
    have e3 : IntKind.i64.wrap ((P : Int) * 256) = P * 256 := wrap_small _ (by omega) (by omega)
    have e4 : bits BinOp.or IntKind.i64 ((P : Int) * 256) Q = nib l x.1 := by rw [HN.out, or_join 8 (by omega) (by omega) (by omega) (by omega) (by omega) (by omega) (by omega)]
    obtain ⟨A', c', w1, hrun, hown', hgrow, _⟩ := run_app (P := Try.prog) (W.alloc (.cells #[.int .i64 (nib l x.1)] 3)).drew (ty := 69) (t := 69) Try.underlying69 elemI64 (hrow.alloc _) (Sl.new (n := 1) (heap_alloc_new _ _) rfl) (c := 1) (by simp [Value.oneCell']) (by simp only [maxLen]; omega) (by omega) (by have := hB.size; simp; omega)
    have hsz := hB.size
    have hBp : But W1.heap.size (· = w.heap.size + 1) W w1 := (((But.refl _ _ W).drew).alloc hsz (.cells #[.int .i64 (nib l x.1)] 3)).grown hgrow (by simp; omega) (fun j ej => .inl (own_ge hrow j ej))
    obtain ⟨hv1, hv2, hr2, hk2, hb2⟩ := box_append (W := W.drew) hv (by omega) hrow hB.size hown' hgrow
    have hc1 := hv1.cell
    have hca : (W.alloc (.cells #[.int .i64 (nib l x.1)] 3)).drew.cell? ⟨w.heap.size + 1, 0, none⟩ = some v := (hv.alloc _).cell
    have hf1 := hv1.frozen
    have HR := Lib.hid (And.intro hv2 (And.intro hr2 (And.intro hk2 hb2)))
    have HV := Lib.hid (And.intro hv hB)
    have HB := Lib.hid (And.intro b1 b2)
    clear hv2 hr2 hk2 hb2 hv1 hown' hgrow hrow hv hB hB0 hr bR bO b1 b2 hcl
    gi_wp2
    let S : World → Prop := fun w' => w'.cell? ⟨b, q, none⟩ = some (.int .u8 P) ∧ w'.cell? ⟨b, q + 1, none⟩ = some (.int .u8 Q)
    have hS : ∀ w', But W1.heap.size (· = w.heap.size + 1) W w' → S w' := fun w' h =>
      ⟨(World.cell?_of_block (a := ⟨b, q, none⟩) (h.block b (by omega) (by omega))).trans k1, (World.cell?_of_block (a := ⟨b, q + 1, none⟩) (h.block b (by omega) (by omega))).trans k2⟩
    have hSd : S W.drew := hS _ (But.refl _ _ W).drew
    have hSa : S (W.alloc (.cells #[.int .i64 (nib l x.1)] 3)).drew := hS _ (((But.refl _ _ W).alloc hsz _).drew)
    have hSp : S w1 := hS _ hBp
    have hSs : S (w1.setCell ⟨w.heap.size + 1, 0, none⟩ (.slice A' (pre.length + 1) c')) := hS _ (((But.refl _ _ W).drew).trans HR.out.2.2.2)
    refine round_region S hmx (by kernel_rfl) (inBlock_noOut ownG_noOut) ?_
    refine wpAnyH_take (i := 1) (oi := ?oi_1) (v := ?v_1) ?ho_1 ?h1_1 ?h2_1 ?h3_1 ?hq_1 (Or.inl ⟨?hw_1, ?hy_1⟩) ?hs_1 ?rest_1; (case h2_1 => kernel_rfl); (case h3_1 => kernel_rfl); (case ho_1 => (simp only [List.getElem?_toArray, List.getElem?_cons_zero, List.getElem?_cons_succ]; rfl)); (case h1_1 => kernel_rfl); (case hq_1 => exact fun _ _ _ h => h); (case hw_1 => rfl); (case hy_1 => (intro w' hSw; (try simp only [S] at hSw); go_simp; (try with_reducible rfl))); (case hs_1 => assumption); (try simp only [Act.put, List.setIfInBounds_toArray, List.set_cons_zero, List.set_cons_succ])
    refine wpAnyH_take (i := 2) (oi := ?oi_2) (v := ?v_2) ?ho_2 ?h1_2 ?h2_2 ?h3_2 ?hq_2 (Or.inl ⟨?hw_2, ?hy_2⟩) ?hs_2 ?rest_2; (case h2_2 => kernel_rfl); (case h3_2 => kernel_rfl); (case ho_2 => (simp only [List.getElem?_toArray, List.getElem?_cons_zero, List.getElem?_cons_succ]; rfl)); (case h1_2 => kernel_rfl); (case hq_2 => exact fun _ _ _ h => h); (case hw_2 => rfl); (case hy_2 => (intro w' hSw; (try simp only [S] at hSw); go_simp; (try with_reducible rfl))); (case hs_2 => assumption); (try simp only [Act.put, List.setIfInBounds_toArray, List.set_cons_zero, List.set_cons_succ])
    refine wpAnyH_take (i := 3) (oi := ?oi_3) (v := ?v_3) ?ho_3 ?h1_3 ?h2_3 ?h3_3 ?hq_3 (Or.inl ⟨?hw_3, ?hy_3⟩) ?hs_3 ?rest_3; (case h2_3 => kernel_rfl); (case h3_3 => kernel_rfl); (case ho_3 => (simp only [List.getElem?_toArray, List.getElem?_cons_zero, List.getElem?_cons_succ]; rfl)); (case h1_3 => kernel_rfl); (case hq_3 => exact fun _ _ _ h => h); (case hw_3 => rfl); (case hy_3 => (intro w' hSw; (try simp only [S] at hSw); go_simp; (try with_reducible rfl))); (case hs_3 => assumption); (try simp only [Act.put, List.setIfInBounds_toArray, List.set_cons_zero, List.set_cons_succ])
    refine wpAnyH_take (i := 4) (oi := ?oi_4) (v := ?v_4) ?ho_4 ?h1_4 ?h2_4 ?h3_4 ?hq_4 (Or.inl ⟨?hw_4, ?hy_4⟩) ?hs_4 ?rest_4; (case h2_4 => kernel_rfl); (case h3_4 => kernel_rfl); (case ho_4 => (simp only [List.getElem?_toArray, List.getElem?_cons_zero, List.getElem?_cons_succ]; rfl)); (case h1_4 => kernel_rfl); (case hq_4 => exact fun _ _ _ h => h); (case hw_4 => rfl); (case hy_4 => (intro w' hSw; (try simp only [S] at hSw); go_simp; (try with_reducible rfl))); (case hs_4 => assumption); (try simp only [Act.put, List.setIfInBounds_toArray, List.set_cons_zero, List.set_cons_succ])
    refine wpAnyH_take (i := 5) (oi := ?oi_5) (v := ?v_5) ?ho_5 ?h1_5 ?h2_5 ?h3_5 ?hq_5 (Or.inl ⟨?hw_5, ?hy_5⟩) ?hs_5 ?rest_5; (case h2_5 => kernel_rfl); (case h3_5 => kernel_rfl); (case ho_5 => (simp only [List.getElem?_toArray, List.getElem?_cons_zero, List.getElem?_cons_succ]; rfl)); (case h1_5 => kernel_rfl); (case hq_5 => exact fun _ _ _ h => h); (case hw_5 => rfl); (case hy_5 => (intro w' hSw; (try simp only [S] at hSw); go_simp; (try with_reducible rfl))); (case hs_5 => assumption); (try simp only [Act.put, List.setIfInBounds_toArray, List.set_cons_zero, List.set_cons_succ])
    refine wpAnyH_take (i := 6) (oi := ?oi_6) (v := ?v_6) ?ho_6 ?h1_6 ?h2_6 ?h3_6 ?hq_6 (Or.inl ⟨?hw_6, ?hy_6⟩) ?hs_6 ?rest_6; (case h2_6 => kernel_rfl); (case h3_6 => kernel_rfl); (case ho_6 => (simp only [List.getElem?_toArray, List.getElem?_cons_zero, List.getElem?_cons_succ]; rfl)); (case h1_6 => kernel_rfl); (case hq_6 => exact fun _ _ _ h => h); (case hw_6 => rfl); (case hy_6 => (intro w' hSw; (try simp only [S] at hSw); go_simp; (try with_reducible rfl))); (case hs_6 => assumption); (try simp only [Act.put, List.setIfInBounds_toArray, List.set_cons_zero, List.set_cons_succ])
    refine wpAnyH_take (i := 7) (oi := ?oi_7) (v := ?v_7) ?ho_7 ?h1_7 ?h2_7 ?h3_7 ?hq_7 (Or.inl ⟨?hw_7, ?hy_7⟩) ?hs_7 ?rest_7; (case h2_7 => kernel_rfl); (case h3_7 => kernel_rfl); (case ho_7 => (simp only [List.getElem?_toArray, List.getElem?_cons_zero, List.getElem?_cons_succ]; rfl)); (case h1_7 => kernel_rfl); (case hq_7 => exact fun _ _ _ h => h); (case hw_7 => rfl); (case hy_7 => (intro w' hSw; (try simp only [S] at hSw); go_simp; (try with_reducible rfl))); (case hs_7 => assumption); (try simp only [Act.put, List.setIfInBounds_toArray, List.set_cons_zero, List.set_cons_succ])
    refine wpAnyH_take (i := 8) (oi := ?oi_8) (v := ?v_8) ?ho_8 ?h1_8 ?h2_8 ?h3_8 ?hq_8 (Or.inl ⟨?hw_8, ?hy_8⟩) ?hs_8 ?rest_8; (case h2_8 => kernel_rfl); (case h3_8 => kernel_rfl); (case ho_8 => (simp only [List.getElem?_toArray, List.getElem?_cons_zero, List.getElem?_cons_succ]; rfl)); (case h1_8 => kernel_rfl); (case hq_8 => exact fun _ _ _ h => h); (case hw_8 => rfl); (case hy_8 => (intro w' hSw; (try simp only [S] at hSw); go_simp; (try with_reducible rfl))); (case hs_8 => assumption); (try simp only [Act.put, List.setIfInBounds_toArray, List.set_cons_zero, List.set_cons_succ])
    refine wpAnyH_take (i := 9) (oi := ?oi_9) (v := ?v_9) ?ho_9 ?h1_9 ?h2_9 ?h3_9 ?hq_9 (Or.inl ⟨?hw_9, ?hy_9⟩) ?hs_9 ?rest_9; (case h2_9 => kernel_rfl); (case h3_9 => kernel_rfl); (case ho_9 => (simp only [List.getElem?_toArray, List.getElem?_cons_zero, List.getElem?_cons_succ]; rfl)); (case h1_9 => kernel_rfl); (case hq_9 => exact fun _ _ _ h => h); (case hw_9 => rfl); (case hy_9 => (intro w' hSw; (try simp only [S] at hSw); go_simp; (try with_reducible rfl))); (case hs_9 => assumption); (try simp only [Act.put, List.setIfInBounds_toArray, List.set_cons_zero, List.set_cons_succ])
    refine wpAnyH_take (i := 10) (oi := ?oi_10) (v := ?v_10) ?ho_10 ?h1_10 ?h2_10 ?h3_10 ?hq_10 (Or.inl ⟨?hw_10, ?hy_10⟩) ?hs_10 ?rest_10; (case h2_10 => kernel_rfl); (case h3_10 => kernel_rfl); (case ho_10 => (simp only [List.getElem?_toArray, List.getElem?_cons_zero, List.getElem?_cons_succ]; rfl)); (case h1_10 => kernel_rfl); (case hq_10 => exact fun _ _ _ h => h); (case hw_10 => rfl); (case hy_10 => (intro w' hSw; (try simp only [S] at hSw); go_simp; (try with_reducible rfl))); (case hs_10 => assumption); (try simp only [Act.put, List.setIfInBounds_toArray, List.set_cons_zero, List.set_cons_succ])
    clear k1 k2
    have fin : KeepsFrom W1.heap.size W (w1.setCell ⟨w.heap.size + 1, 0, none⟩ (.slice A' (pre.length + 1) c')) ∧ Two (w.heap.size + 1 + 1) (w.heap.size + 1 + 1 + 1) W (w1.setCell ⟨w.heap.size + 1, 0, none⟩ (.slice A' (pre.length + 1) c')) ∧
        ((∃ v, Boxed (w1.setCell ⟨w.heap.size + 1, 0, none⟩ (.slice A' (pre.length + 1) c')) (w.heap.size + 1) 69 v ∧ (w1.setCell ⟨w.heap.size + 1, 0, none⟩ (.slice A' (pre.length + 1) c')).ownsRow W1.heap.size 3 1 v (pre ++ [x]).length (nibs l (pre ++ [x])) ∧ True) ∧
          But W1.heap.size (· = w.heap.size + 1) W1 (w1.setCell ⟨w.heap.size + 1, 0, none⟩ (.slice A' (pre.length + 1) c'))) := by
      obtain ⟨hv, hB⟩ := HV.out
      obtain ⟨hv2, hr2, hk2, hb2⟩ := HR.out
      obtain ⟨b1, b2⟩ := HB.out
      have hbW := ((But.refl W1.heap.size (· = w.heap.size + 1) W).drew).trans hb2
      refine ⟨((KeepsOthers.drew W).trans hk2).from _, Two.boxed (hB.boxed (by omega) (by omega) b1) (hB.boxed (by omega) (by omega) b2) ((hB.trans hbW).boxed (by omega) (by omega) b1) ((hB.trans hbW).boxed (by omega) (by omega) b2), ⟨_, hv2, ?_, trivial⟩, hB.trans hbW⟩
      rw [List.length_append]
      have e : nibs l (pre ++ [x]) = nibs l pre ++ (#[Value.int .i64 (nib l x.1)] : Array Value).toList := by simp [nibs]
      rw [e]
      exact hr2
    have FIN := Lib.hid fin
    clear fin
    refine wpAnyH_ready (rs := [0, 11]) (by kernel_rfl) (by simp) (AllReadyH.cons (o := ?oo0_11) ?hoo0_11 (fun K hK => ?step0) (AllReadyH.cons (o := ?oo11_11) ?hoo11_11 (fun K hK => ?step11) AllReadyH.nil)); (case hoo0_11 => (simp only [List.getElem?_toArray, List.getElem?_cons_zero, List.getElem?_cons_succ]; rfl)); (case hoo11_11 => (simp only [List.getElem?_toArray, List.getElem?_cons_zero, List.getElem?_cons_succ]; rfl))
    case step0 =>
      go_simp
      refine hK.out _ _ hSd (fun _ => ?_)
      clear hK K
      (try simp only [Act.put, List.setIfInBounds_toArray, List.set_cons_zero, List.set_cons_succ])
      refine wpAnyH_ready (rs := [11]) (by kernel_rfl) (by simp) (AllReadyH.cons (o := ?oo11_12) ?hoo11_12 (fun K hK => ?steponly12) AllReadyH.nil); (case hoo11_12 => (simp only [List.getElem?_toArray, List.getElem?_cons_zero, List.getElem?_cons_succ]; rfl))
      go_simp
      refine hK.out _ _ hSa (fun _ => ?_)
      clear hK K
      (try simp only [Act.put, List.setIfInBounds_toArray, List.set_cons_zero, List.set_cons_succ])
      refine wpAnyH_ready (rs := [12]) (by kernel_rfl) (by simp) (AllReadyH.cons (o := ?oo12_13) ?hoo12_13 (fun K hK => ?steponly13) AllReadyH.nil); (case hoo12_13 => (simp only [List.getElem?_toArray, List.getElem?_cons_zero, List.getElem?_cons_succ]; rfl))
      go_simp
      refine hK.out _ _ hSp (fun _ => ?_)
      clear hK K
      (try simp only [Act.put, List.setIfInBounds_toArray, List.set_cons_zero, List.set_cons_succ])
      refine wpAnyH_ready (rs := [13]) (by kernel_rfl) (by simp) (AllReadyH.cons (o := ?oo13_14) ?hoo13_14 (fun K hK => ?steponly14) AllReadyH.nil); (case hoo13_14 => (simp only [List.getElem?_toArray, List.getElem?_cons_zero, List.getElem?_cons_succ]; rfl))
      go_simp
      refine hK.out _ _ hSs (fun _ => ?_)
      clear hK K
      (try simp only [Act.put, List.setIfInBounds_toArray, List.set_cons_zero, List.set_cons_succ])
      refine wpAnyH_done (by kernel_rfl) ?_ _
      gi_wp2
      exact FIN.out
    case step11 =>
      go_simp
      refine hK.out _ _ hSa (fun _ => ?_)
      clear hK K
      (try simp only [Act.put, List.setIfInBounds_toArray, List.set_cons_zero, List.set_cons_succ])
      refine wpAnyH_ready (rs := [0]) (by kernel_rfl) (by simp) (AllReadyH.cons (o := ?oo0_15) ?hoo0_15 (fun K hK => ?steponly15) AllReadyH.nil); (case hoo0_15 => (simp only [List.getElem?_toArray, List.getElem?_cons_zero, List.getElem?_cons_succ]; rfl))
      go_simp
      refine hK.out _ _ hSa (fun _ => ?_)
      clear hK K
      (try simp only [Act.put, List.setIfInBounds_toArray, List.set_cons_zero, List.set_cons_succ])
      refine wpAnyH_ready (rs := [12]) (by kernel_rfl) (by simp) (AllReadyH.cons (o := ?oo12_16) ?hoo12_16 (fun K hK => ?steponly16) AllReadyH.nil); (case hoo12_16 => (simp only [List.getElem?_toArray, List.getElem?_cons_zero, List.getElem?_cons_succ]; rfl))
      go_simp
      refine hK.out _ _ hSp (fun _ => ?_)
      clear hK K
      (try simp only [Act.put, List.setIfInBounds_toArray, List.set_cons_zero, List.set_cons_succ])
      refine wpAnyH_ready (rs := [13]) (by kernel_rfl) (by simp) (AllReadyH.cons (o := ?oo13_17) ?hoo13_17 (fun K hK => ?steponly17) AllReadyH.nil); (case hoo13_17 => (simp only [List.getElem?_toArray, List.getElem?_cons_zero, List.getElem?_cons_succ]; rfl))
      go_simp
      refine hK.out _ _ hSs (fun _ => ?_)
      clear hK K
      (try simp only [Act.put, List.setIfInBounds_toArray, List.set_cons_zero, List.set_cons_succ])
      refine wpAnyH_done (by kernel_rfl) ?_ _
      gi_wp2
      exact FIN.out
  case done =>
    rintro D ys W hD rfl ⟨⟨v, hv, hrow, -⟩, hB⟩ hK
    obtain ⟨A, cp, rfl, hcp⟩ := own_form hrow
    have hsl := Sl.of_own hrow
    rw [show (List.finRange 5).length = 5 from by simp] at hsl hv
    obtain ⟨g, og, rfl, hgW, hrg⟩ := hsl.at_ (by omega)
    have hBW : Below w.heap.size w W := hB0.trans (hB.below (by omega) (fun k e => by omega))
    have hzW : w.heap.size + 4 ≤ W.heap.size := by have := hB.size; omega
    have bRW : W.heap[w.heap.size]? = some (.cells #[.int .i64 0, .int .i64 0, .int .i64 0, .int .i64 0, .int .i64 0] 23) := hB.blk (by omega) (by omega) bR
    obtain ⟨s, hs⟩ : ∃ s, unS l = s := ⟨_, rfl⟩
    obtain ⟨x0, x1, x2, x3, x4⟩ := s
    have e0 : nib l 0 = x0 := by simp only [unS, Sty.mk.injEq] at hs; exact hs.1
    have e1 : nib l 1 = x1 := by simp only [unS, Sty.mk.injEq] at hs; exact hs.2.1
    have e2 : nib l 2 = x2 := by simp only [unS, Sty.mk.injEq] at hs; exact hs.2.2.1
    have e3 : nib l 3 = x3 := by simp only [unS, Sty.mk.injEq] at hs; exact hs.2.2.2.1
    have e4 : nib l 4 = x4 := by simp only [unS, Sty.mk.injEq] at hs; exact hs.2.2.2.2
    have q0 : W.cell? ⟨g, og, none⟩ = some (.int .i64 x0) := by rw [← e0]; exact hrg 0 _ rfl
    have q1 : W.cell? ⟨g, og + 1, none⟩ = some (.int .i64 x1) := by rw [← e1]; exact hrg 1 _ rfl
    have q2 : W.cell? ⟨g, og + 2, none⟩ = some (.int .i64 x2) := by rw [← e2]; exact hrg 2 _ rfl
    have q3 : W.cell? ⟨g, og + 3, none⟩ = some (.int .i64 x3) := by rw [← e3]; exact hrg 3 _ rfl
    have q4 : W.cell? ⟨g, og + 4, none⟩ = some (.int .i64 x4) := by rw [← e4]; exact hrg 4 _ rfl
    have qc := hv.cell
    have lift : ∀ (b o : Nat) (v : Value), b < W.heap.size → W.cell? ⟨b, o, none⟩ = some v → ∀ w', Below W.heap.size W w' → w'.cell? ⟨b, o, none⟩ = some v := fun b o v hb h w' hw => (hw.cell (p := ⟨b, o, none⟩) hb).trans h
    have q0' := lift _ _ _ hgW q0
    have q1' := lift _ _ _ hgW q1
    have q2' := lift _ _ _ hgW q2
    have q3' := lift _ _ _ hgW q3
    have q4' := lift _ _ _ hgW q4
    have qc' := lift _ _ _ (by omega) qc
    have HB := Lib.hid (And.intro hBW (And.intro bRW (And.intro hD hK)))
    have HE := Lib.hid hs
    clear hs e0 e1 e2 e3 e4 q0 q1 q2 q3 q4 qc lift hsl hv hrow hB hrg hB0 bR bO b1 b2 hBW bRW hD hK hr
    gi_wp2
    refine wpIn_wide.2 ?_
    go_region_held3 (Below W.heap.size W) (exact (by repeat (first | (with_reducible exact Below.refl _ _) | (with_reducible refine bDrewN ?_ _) | (with_reducible refine Below.drew ?_) | (with_reducible refine Below.alloc ?_ ?_ _) | (with_reducible refine Below.setCell ?_ ?_ _) | (with_reducible assumption) | go_size))) (fail)
    generalize hW2 : (W.alloc _).drew = W2
    have bS : W2.heap[W.heap.size]? = some (.cells #[.int .i64 x0, .int .i64 x1, .int .i64 x2, .int .i64 x3, .int .i64 x4] 23) := by rw [← hW2]; exact heap_alloc_new _ _
    have hB2 : Below W.heap.size W W2 := by rw [← hW2]; exact (by repeat (first | (with_reducible exact Below.refl _ _) | (with_reducible refine bDrewN ?_ _) | (with_reducible refine Below.drew ?_) | (with_reducible refine Below.alloc ?_ ?_ _) | (with_reducible refine Below.setCell ?_ ?_ _) | (with_reducible assumption) | go_size))
    have hz2 : W.heap.size < W2.heap.size := by rw [← hW2]; simp
    clear hW2 qc' q0' q1' q2' q3' q4'
    have hdec : Sty.dec l = if Sty.good ⟨x0, x1, x2, x3, x4⟩ = true then some ⟨x0, x1, x2, x3, x4⟩ else none := by
      unfold Sty.dec; rw [HE.out]; simp [hl]
    obtain ⟨t, ht⟩ : ∃ t, Sty.good ⟨x0, x1, x2, x3, x4⟩ = t := ⟨_, rfl⟩
    rw [ht] at hdec
    have HT := Lib.hid ht
    have HD := Lib.hid hdec
    clear ht hdec
    have k0 := blk_cell bS (k := 0) rfl
    have k1 := blk_cell bS (k := 1) rfl
    have k2 := blk_cell bS (k := 2) rfl
    have k3 := blk_cell bS (k := 3) rfl
    have k4 := blk_cell bS (k := 4) rfl
    gi_wp2_with fail
    refine ⟨trivial, ?_⟩
    refine (callsIn_wide.2 (good_eq HT _)).mono ?_
    rintro e w3 ⟨rfl, hb3⟩
    obtain ⟨hc3, hf3⟩ := bReads hb3
    have hz3 := hb3.size
    obtain ⟨hBW, bRW, hD, hK⟩ := HB.out
    have bR3 : w3.heap[w.heap.size]? = some (.cells #[.int .i64 0, .int .i64 0, .int .i64 0, .int .i64 0, .int .i64 0] 23) := bBlk hb3 (by omega) (bBlk hB2 (by omega) bRW)
    have bS3 := bBlk hb3 hz2 bS
    have hK3 : w3.heap[D]? = some (.deferred (some [])) := bBlk hb3 (by have := (Array.getElem?_eq_some_iff.1 hK).1; omega) (bBlk hB2 (Array.getElem?_eq_some_iff.1 hK).1 hK)
    have hB3 : Below w.heap.size w w3 := hBW.trans ((hB2.mono (by omega)).trans (hb3.mono (by omega)))
    have s0 := blk_cell bS3 (k := 0) rfl
    have r0 := blk_cell bR3 (k := 0) rfl
    have f0 := blk_frozen bR3 0
    have s1 := blk_cell bS3 (k := 1) rfl
    have r1 := blk_cell bR3 (k := 1) rfl
    have f1 := blk_frozen bR3 1
    have s2 := blk_cell bS3 (k := 2) rfl
    have r2 := blk_cell bR3 (k := 2) rfl
    have f2 := blk_frozen bR3 2
    have s3 := blk_cell bS3 (k := 3) rfl
    have r3 := blk_cell bR3 (k := 3) rfl
    have f3 := blk_frozen bR3 3
    have s4 := blk_cell bS3 (k := 4) rfl
    have r4 := blk_cell bR3 (k := 4) rfl
    have f4 := blk_frozen bR3 4
    clear bRW bS hBW hB2 hb3 hK k0 k1 k2 k3 k4 hc3 hf3
    have hDn : w.heap.size ≠ D := by omega
    cases t
    · gi_wp2
      generalize hW9 : World.setCell (World.setCell (World.setCell (World.setCell (World.setCell w3 _ _) _ _) _ _) _ _) _ _ = W9
      have b9 : W9.heap[w.heap.size]? = some (.cells #[.int .i64 0, .int .i64 0, .int .i64 0, .int .i64 0, .int .i64 0] 23) := by rw [← hW9]; exact blk_set (blk_set (blk_set (blk_set (blk_set bR3 0 _) 1 _) 2 _) 3 _) 4 _
      have hK9 : W9.heap[D]? = some (.deferred (some [])) := by rw [← hW9]; exact blk_far (blk_far (blk_far (blk_far (blk_far hK3 _ hDn.symm) _ hDn.symm) _ hDn.symm) _ hDn.symm) _ hDn.symm
      have hB9 : Below w.heap.size w W9 := by rw [← hW9]; exact ((((hB3.setCell (Nat.le_refl _) _).setCell (Nat.le_refl _) _).setCell (Nat.le_refl _) _).setCell (Nat.le_refl _) _).setCell (Nat.le_refl _) _
      clear hW9
      refine ⟨by simp, .inl ⟨_, _, rfl, run_takeDeferred hK9, ?_⟩⟩
      have hBp := hB9.trans (belowK_b (w := w) (Nat.le_refl _) W9 D _ (.deferred none) (by omega) hK9 rfl rfl)
      have b10 := blk_put (o' := .deferred none) b9 hDn
      have z0 := blk_cell b10 (k := 0) rfl
      have z1 := blk_cell b10 (k := 1) rfl
      have z2 := blk_cell b10 (k := 2) rfl
      have z3 := blk_cell b10 (k := 3) rfl
      have z4 := blk_cell b10 (k := 4) rfl
      refine ⟨_, by simp [results, Try.results13, go_sem, *]; rfl, Ret.mk (by rw [HD.out]; try rfl) hBp⟩
    · gi_wp2
      generalize hW9 : World.setCell (World.setCell (World.setCell (World.setCell (World.setCell w3 _ _) _ _) _ _) _ _) _ _ = W9
      have b9 : W9.heap[w.heap.size]? = some (.cells #[.int .i64 x0, .int .i64 x1, .int .i64 x2, .int .i64 x3, .int .i64 x4] 23) := by rw [← hW9]; exact blk_set (blk_set (blk_set (blk_set (blk_set bR3 0 _) 1 _) 2 _) 3 _) 4 _
      have hK9 : W9.heap[D]? = some (.deferred (some [])) := by rw [← hW9]; exact blk_far (blk_far (blk_far (blk_far (blk_far hK3 _ hDn.symm) _ hDn.symm) _ hDn.symm) _ hDn.symm) _ hDn.symm
      have hB9 : Below w.heap.size w W9 := by rw [← hW9]; exact ((((hB3.setCell (Nat.le_refl _) _).setCell (Nat.le_refl _) _).setCell (Nat.le_refl _) _).setCell (Nat.le_refl _) _).setCell (Nat.le_refl _) _
      clear hW9
      refine ⟨by simp, .inl ⟨_, _, rfl, run_takeDeferred hK9, ?_⟩⟩
      have hBp := hB9.trans (belowK_b (w := w) (Nat.le_refl _) W9 D _ (.deferred none) (by omega) hK9 rfl rfl)
      have b10 := blk_put (o' := .deferred none) b9 hDn
      have z0 := blk_cell b10 (k := 0) rfl
      have z1 := blk_cell b10 (k := 1) rfl
      have z2 := blk_cell b10 (k := 2) rfl
      have z3 := blk_cell b10 (k := 3) rfl
      have z4 := blk_cell b10 (k := 4) rfl
      refine ⟨_, by simp [results, Try.results13, go_sem, *]; rfl, Ret.mk (by rw [HD.out]; try rfl) hBp⟩
end Go.Proofs.Ytjfkaebikmnnaaa
