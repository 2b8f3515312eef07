/- The marks of a line, as a byte. -/
import Derived.Test.YtiffcdeagckgmaaDoorShSeq
namespace Go.Proofs.YtiffcdeagckgmaaDoor
set_option linter.unusedSimpArgs false
set_option linter.unusedVariables false
open Go.RowKit Go.Shelf
attribute [local go_sem] Oper.semAt_some

theorem heap_alloc_new2 (w : World) (o1 o2 : Obj) : ((w.alloc o1).alloc o2).heap[w.heap.size + 1]? = some o2 := by
  have := heap_alloc_new (w.alloc o1) o2
  rwa [World.size_alloc] at this
theorem mapped_stops (B : Nat) (x : LN) (X : Nat → Prop) (hXB : X B) (w : World) (hX : ∀ k, X k → k < w.heap.size) (hB : w.heap[B]? = some (.cells x.cells.toArray 45)) :
    SeqStopsK Fence.wide 10 Tryd.prog 33 #[.pointer (some ⟨B, 0, none⟩)] (fun k : Fin 3 => mkc x k) (Hold X) (fun ys => ys = List.finRange 3)
      (fun pre => ∃ k, k ≤ 3 ∧ pre = (List.finRange 3).take k) 3 w := fun l J Jx W hW _ _ hY h0 =>
  mapped1_in l B x X hXB J Jx hY W ((Hold.of_below hW hX B hXB).trans hB) h0

def addB (x : LN) (pre : List (Fin 3)) : Int := (pre.map fun k => if flagOf x k then bitOf k else 0).sum
theorem addB_next (x : LN) (pre : List (Fin 3)) (k : Fin 3) : addB x (pre ++ [k]) = addB x pre + (if flagOf x k then bitOf k else 0) := by
  simp [addB]
theorem bitOf_bd (k : Fin 3) : 0 ≤ bitOf k ∧ bitOf k ≤ 16 := by
  match k with
  | 0 => exact ⟨by decide, by decide⟩
  | 1 => exact ⟨by decide, by decide⟩
  | 2 => exact ⟨by decide, by decide⟩
theorem addB_bd (x : LN) (pre : List (Fin 3)) : 0 ≤ addB x pre ∧ addB x pre ≤ 16 * pre.length := by
  induction pre with
  | nil => exact ⟨by simp [addB], by simp [addB]⟩
  | cons k pre ih =>
    have h := bitOf_bd k
    have e : addB x (k :: pre) = (if flagOf x k then bitOf k else 0) + addB x pre := by simp [addB]
    rw [e]
    simp only [List.length_cons]
    split <;> constructor <;> omega
/-- the byte of a line's kind and marks -/
def mkB (x : LN) : Int := x.kind + addB x (List.finRange 3)
theorem addB_all (x : LN) : addB x (List.finRange 3) = (if x.first then 4 else 0) + ((if x.last then 8 else 0) + (if x.over then 16 else 0)) := by
  have e : List.finRange 3 = [0, 1, 2] := by decide
  rw [e]
  obtain ⟨kd, f, l, o, pv⟩ := x
  cases f <;> cases l <;> cases o <;> rfl
theorem mkB_bd {x : LN} (h : 1 ≤ x.kind ∧ x.kind ≤ 3) : 0 ≤ mkB x ∧ mkB x ≤ 31 := by
  unfold mkB
  rw [addB_all]
  constructor <;> (split <;> split <;> split <;> omega)

set_option maxRecDepth 100000 in
set_option maxHeartbeats 4000000 in
theorem marks_any {x : LN} (h : 1 ≤ x.kind ∧ x.kind ≤ 3) (ho : x.One) (w : World) :
    Calls Tryd.prog 20 #[.agg x.cells.toArray] w (Ret w (.int .u8 (mkB x))) := by
  have HB := Lib.hid (mkB_bd h)
  have hrs := fun cs W => mapped_any cs W
  have h1 := h.1
  have h2 := h.2
  refine (callsIn_wide (n := 11)).1 ?_
  refine callsIn_of_wp_marks Tryd.func20 rfl trivial ?_ rfl
  simp only [Tryd.ntmps20, List.size_toArray, List.length_cons, List.length_nil, Nat.reduceAdd, Nat.reduceSub, Array.replicate_succ, Array.replicate_zero, List.push_toArray, List.append_toArray, List.nil_append, List.cons_append, LN.cells]
  gi_wp2_with fail
  refine ⟨trivial, ?_⟩
  refine (callsIn_wide.2 (hrs _ _)).mono ?_
  rintro e w' ⟨rfl, rfl⟩
  clear hrs
  generalize hW : World.alloc (World.alloc (World.alloc w _) _) _ = W1
  have hz : W1.heap.size = w.heap.size + 3 := by rw [← hW]; simp
  have bN : W1.heap[w.heap.size + 1]? = some (.cells #[.int .i64 x.kind] 3) := by
    rw [← hW]; exact (Below.heap_alloc _ _ _ (by simp <;> omega)).trans (heap_alloc_new2 _ _ _)
  have bL : W1.heap[w.heap.size + 1 + 1]? = some (.cells x.cells.toArray 45) := by
    have e := heap_alloc_new2 (w.alloc (.cells #[Value.int IntKind.i64 x.kind, Value.bool x.first, Value.bool x.last, Value.bool x.over, x.pv] 45)) (.cells #[.int .i64 x.kind] 3) (.cells #[Value.int IntKind.i64 x.kind, Value.bool x.first, Value.bool x.last, Value.bool x.over, x.pv] 45)
    rw [World.size_alloc] at e
    rw [← hW]; exact e
  have hB0 : Below w.heap.size w W1 := by rw [← hW]; exact ((((Below.refl _ w).alloc (Nat.le_refl _) _).alloc (by simp) _).alloc (by simp <;> omega) _)
  clear hW
  have HZ : Hid (W1.heap.size = w.heap.size + 3) := Lib.hid hz
  have hz2 : w.heap.size + 3 ≤ W1.heap.size := by omega
  clear hz
  gi_wp2
  let X : Nat → Prop := fun i => i = w.heap.size + 1 + 1
  have hXW : ∀ i, X i → i < W1.heap.size := fun i hi => by simp only [X] at hi; omega
  have hXs : ∀ i, X i → ¬ (i = w.heap.size + 1) := fun i hi => by simp only [X] at hi; omega
  refine wpIn_rangeFunc_ownG rfl (by omega) (gf := 33) (lb := #[.pointer (some ⟨w.heap.size + 1 + 1, 0, none⟩)]) rfl trivial (enters_of Tryd.func33 (by kernel_rfl) rfl)
    (mapped_stops (w.heap.size + 1 + 1) x X rfl W1 hXW bL) (fun h k => h.trans k) (fun W l o o' hl h a c => Hold.obj (w := W1) hXW W l o o' hl h a c) (Below.refl _ _) (fun _ => rfl)
    (fun (pre : List (Fin 3)) W => W.heap[w.heap.size + 1]? = some (.cells #[.int .i64 (x.kind + addB x pre)] 3) ∧ But W1.heap.size (· = w.heap.size + 1) W1 W)
    (fun _ _ _ => False)
    (OwnFrom.and (fun pre W W' row h hg hr => (hg.block (w.heap.size + 1) (Array.getElem?_eq_some_iff.1 h).1 (fun e => by have := (hr _ e.symm).1; omega)).trans h) (But.own (a := W1) (n := W1.heap.size) (X := (· = w.heap.size + 1)) (Nat.le_refl _) (Nat.le_refl _)))
    (fun _ _ _ _ _ hs _ _ => hs)
    ⟨by rw [show addB x [] = 0 from rfl, Int.add_zero]; exact bN, But.refl _ _ _⟩
    ?a1 ?assign ?body ?done ?stop
  case assign =>
    intro l0 k W K hK
    simp only [mkc]
    gi_wp2
    exact hK
  case stop => exact fun D c pre W _ _ h _ => h.elim
  case body =>
    rintro l0 pre k W ⟨hN, hB⟩ hlt
    have hbd := addB_bd x pre
    have hbk := bitOf_bd k
    have hsz := hB.size
    have hnx := addB_next x pre k
    obtain ⟨N, hNN⟩ : ∃ N, x.kind + addB x pre = N := ⟨_, rfl⟩
    rw [hNN] at hN
    have hN1 : 0 ≤ N ∧ N ≤ 100 := by omega
    have c0 := blk_cell hN (k := 0) rfl
    have f0 := blk_frozen hN 0
    have FIN : ∀ W', W'.heap[w.heap.size + 1]? = some (.cells #[.int .i64 (N + if flagOf x k then bitOf k else 0)] 3) → KeepsOthers W W' → But W1.heap.size (· = w.heap.size + 1) W W' →
        KeepsFrom W1.heap.size W W' ∧ Hold X W W' ∧ W'.heap[w.heap.size + 1]? = some (.cells #[.int .i64 (x.kind + addB x (pre ++ [k]))] 3) ∧ But W1.heap.size (· = w.heap.size + 1) W1 W' :=
      fun W' h1 h2 h3 => ⟨h2.from _, Hold.of_but h3 (fun k hk => ⟨hXW k hk, hXs k hk⟩), by rw [hnx, ← Int.add_assoc, hNN]; exact h1, hB.trans h3⟩
    have HFIN := Lib.hid FIN
    clear FIN hnx hbd
    have HNN := Lib.hid hNN
    clear hNN
    generalize bitOf k = bk at *
    by_cases hf : flagOf x k = true
    · have FIN2 := HFIN.out
      rw [if_pos hf] at FIN2
      have HFIN := Lib.hid FIN2
      clear FIN2
      simp only [hf]
      have q1 : IntKind.i64.wrap (N + bk) = N + bk := wrap_small _ (by omega) (by omega)
      gi_wp2
      exact HFIN.out _ (blk_set hN 0 _) (KeepsOthers.setCell _ _ _) (But.set (X := (· = w.heap.size + 1)) (But.refl _ _ _) (p := ⟨w.heap.size + 1, 0, none⟩) rfl _)
    · have FIN2 := HFIN.out
      rw [if_neg hf, Int.add_zero] at FIN2
      have HFIN := Lib.hid FIN2
      clear FIN2
      have hf2 : flagOf x k = false := by simpa using hf
      simp only [hf2]
      gi_wp2
      exact HFIN.out _ hN (KeepsOthers.refl _) (But.refl _ _ _)
  case done =>
    rintro D ys W hD rfl ⟨hN, hB⟩ hK
    have e : x.kind + addB x (List.finRange 3) = mkB x := rfl
    rw [e] at hN
    obtain ⟨m, hm⟩ : ∃ m, mkB x = m := ⟨_, rfl⟩
    have hbm := HB.out
    rw [hm] at hbm hN ⊢
    have c0 := blk_cell hN (k := 0) rfl
    have q1 : IntKind.u8.wrap m = m := by rw [IntKind.wrap_u8]; omega
    have hBW : Below w.heap.size w W := hB0.trans (hB.below (by omega) (fun i e => by omega))
    have HM := Lib.hid hm
    clear hm e
    gi_wp2
    refine ⟨by simp, .inl ⟨_, _, rfl, run_takeDeferred hK, ?_⟩⟩
    have hBp := hBW.trans (belowK_b (w := w) (Nat.le_refl _) W D _ (.deferred none) (by omega) hK rfl rfl)
    refine ⟨_, by simp [results, Tryd.results20, go_sem]; rfl, Ret.mk (by rw [HM.out]) hBp⟩
end Go.Proofs.YtiffcdeagckgmaaDoor
