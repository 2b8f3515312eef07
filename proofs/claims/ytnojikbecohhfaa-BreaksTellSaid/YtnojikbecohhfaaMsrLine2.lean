/- The walk over measure.Line. -/
import Derived.Test.YtnojikbecohhfaaMsrLine
import Derived.Test.YtnojikbecohhfaaMsrSeq
namespace Go.Proofs.Ytnojikbecohhfaa
set_option linter.unusedSimpArgs false
set_option linter.unusedVariables false
open Go.RowKit Go.Shelf
attribute [local go_sem] Oper.semAt_some

theorem fst_lt {A : Option Addr} {n c B : Nat} {l : List It} {W : World} (hm : n ≤ 1000000000000) (from_ : Int) (hl : Sl W B 6 A n (encs l)) :
    Calls Try.prog 19 #[.slice A n c, .int .i64 from_] W fun e w' => e = .returned (.int .i64 (fst l from_)) ∧ W = w' := first_any from_ hm hl

theorem line_none {A : Option Addr} {n c : Nat} {l : List It} (from_ to : Int) (hm : n ≤ 100000000000) {w : World} (h : Sl w w.heap.size 6 A n (encs l)) (hft : toAt n to ≤ fst l from_) :
    Calls Try.prog 22 #[.slice A n c, .int .i64 from_, .int .i64 to] w (Ret w (.agg (line l from_ to).cells)) := by
  have hl := its_len h
  have hm' : (n : Int) ≤ 100000000000 := by omega
  obtain ⟨t, e1, htn, ht⟩ : ∃ t : Nat, max 0 (min to (n : Int)) = (t : Int) ∧ t ≤ n ∧ toAt n to = t := ⟨(max 0 (min to (n : Int))).toNat, by omega, by omega, rfl⟩
  obtain ⟨f, hf⟩ : ∃ f : Nat, fst l from_ = f := ⟨_, rfl⟩
  rw [ht, hf] at hft
  have hft2 : (t : Int) ≤ f := by omega
  have HL : Hid (line l from_ to = ⟨0, 0, 0⟩) := Lib.hid (by unfold line; rw [hl, hf, ht]; unfold lineAt; rw [if_pos hft])
  have hF := fun (W : World) (hW : Sl W w.heap.size 6 A n (encs l)) => first_any (c := c) from_ (by omega) hW
  rw [hf] at hF
  have HF := Lib.hid hF
  clear ht hf hF
  go_enter Try.func22, Try.ntmps22
  go_wp2_with fail
  refine (HF.out _ (h.below ((Below.refl _ _).alloc (Nat.le_refl _) _))).mono ?_
  rintro e w1 ⟨rfl, rfl⟩
  go_wp2
  go_returns
  exact Ret.mk (by rw [HL.out]; rfl) (by repeat (first | (with_reducible exact Below.refl _ _) | (with_reducible refine bDrewN ?_ _) | (with_reducible refine Below.drew ?_) | (with_reducible refine Below.alloc ?_ ?_ _) | (with_reducible refine Below.setCell ?_ ?_ _) | (with_reducible assumption) | go_size))

theorem itm_own {α : Type} {B : Nat} (act : α → Nat → Act) (cs : α → Array Value) (t : TypeId) (x : α) (a' : Act) : OwnFrom B (fun (_ : Unit) W => ∃ g, a' = act x g ∧ B ≤ g ∧ W.heap[g]? = some (.cells (cs x) t)) := by
  rintro _ W W' row ⟨g, e, hg, hb⟩ hgr hr
  refine ⟨g, e, hg, (hgr.block g (Array.getElem?_eq_some_iff.1 hb).1 (fun e' => ?_)).trans hb⟩
  obtain ⟨_, o, ho, hc⟩ := hr g e'.symm
  rw [hb] at ho; cases ho; cases hc

set_option maxRecDepth 100000 in
set_option maxHeartbeats 4000000 in
theorem line_some {A : Option Addr} {n c : Nat} {l : List It} (from_ to : Int) (hm : n ≤ 100000000000) {w : World} (h : Sl w w.heap.size 6 A n (encs l)) (hft : fst l from_ < toAt n to) :
    Calls Try.prog 22 #[.slice A n c, .int .i64 from_, .int .i64 to] w (Ret w (.agg (line l from_ to).cells)) := by
  have hl := its_len h
  have hm' : (n : Int) ≤ 100000000000 := by omega
  obtain ⟨t, e1, htn, ht⟩ : ∃ t : Nat, max 0 (min to (n : Int)) = (t : Int) ∧ t ≤ n ∧ toAt n to = t := ⟨(max 0 (min to (n : Int))).toNat, by omega, by omega, rfl⟩
  obtain ⟨f, hf⟩ : ∃ f : Nat, fst l from_ = f := ⟨_, rfl⟩
  rw [ht, hf] at hft
  have hft2 : ¬ (t : Int) ≤ f := by omega
  obtain ⟨cnt, hcnt⟩ : ∃ cnt, f + cnt = t := ⟨t - f, by omega⟩
  have HL : Hid (line l from_ to = ⟨(Sm.of (its l f (List.finRange cnt))).w + penW l t, (Sm.of (its l f (List.finRange cnt))).y, (Sm.of (its l f (List.finRange cnt))).z⟩) := Lib.hid (by
    unfold line; rw [hl, hf, ht]; unfold lineAt; rw [if_neg (by omega), its_all (by omega), hcnt]; rfl)
  obtain ⟨b, o, rfl, hb, hr⟩ := h.at_ (by omega)
  have hst := fun B1 B2 B3 X h1 h2 h3 (hA : X b) W hX hL c1 c2 c3 => within_stops B1 B2 B3 n c w.heap.size cnt f t (some ⟨b, o, none⟩) l from_ (by omega) X h1 h2 h3 (fun b' o' e => by injection e with e; injection e with e1 e2; subst e1; exact hA) hf hcnt htn W hX hL c1 c2 c3
  have hF := fun (W : World) (hW : Sl W w.heap.size 6 (some ⟨b, o, none⟩) n (encs l)) => first_any (c := c) from_ (by omega) hW
  rw [hf] at hF
  have HF := Lib.hid hF
  clear ht hf hF hr
  refine (callsIn_wide (n := 11)).1 ?_
  refine callsIn_of_wp_marks Try.func22 rfl trivial ?_ rfl
  simp only [Try.ntmps22, List.size_toArray, List.length_cons, List.length_nil, Nat.reduceAdd, Nat.reduceSub, Array.replicate_succ, Array.replicate_zero, List.push_toArray, List.append_toArray, List.nil_append, List.cons_append]
  gi_wp2_with fail
  refine ⟨trivial, ?_⟩
  refine (callsIn_wide.2 (HF.out _ (h.below ((Below.refl _ _).alloc (Nat.le_refl _) _)))).mono ?_
  rintro e w' ⟨rfl, rfl⟩
  gi_wp2_with fail
  refine ⟨trivial, ?_⟩
  refine (callsIn_wide.2 (within_any _ _ _ _ _ _)).mono ?_
  rintro e w' ⟨rfl, rfl⟩
  generalize hW : World.alloc (World.alloc (World.alloc (World.alloc (World.alloc w _) _) _) _) _ = W1
  have hz : W1.heap.size = w.heap.size + 5 := by rw [← hW]; simp
  have bR : W1.heap[w.heap.size]? = some (.cells #[.int .i64 0, .int .i64 0, .int .i64 0] 46) := by
    rw [← hW]; exact (Below.heap_alloc _ _ _ (by simp <;> omega)).trans ((Below.heap_alloc _ _ _ (by simp <;> omega)).trans ((Below.heap_alloc _ _ _ (by simp <;> omega)).trans ((Below.heap_alloc _ _ _ (by simp)).trans (heap_alloc_new _ _))))
  have bS : W1.heap[w.heap.size + 1]? = some (.cells #[.int .i64 0, .int .i64 0, .int .i64 0] 46) := by
    rw [← hW]; exact (Below.heap_alloc _ _ _ (by simp <;> omega)).trans ((Below.heap_alloc _ _ _ (by simp <;> omega)).trans ((Below.heap_alloc _ _ _ (by simp)).trans (heap_alloc_new2 _ _ _)))
  have b1 : W1.heap[w.heap.size + 1 + 1]? = some (.cells #[.slice (some ⟨b, o, none⟩) n c] 22) := by
    have e := heap_alloc_new2 (w.alloc (.cells #[.int .i64 0, .int .i64 0, .int .i64 0] 46)) (.cells #[.int .i64 0, .int .i64 0, .int .i64 0] 46) (.cells #[.slice (some ⟨b, o, none⟩) n c] 22)
    rw [World.size_alloc] at e
    rw [← hW]; exact (Below.heap_alloc _ _ _ (by simp <;> omega)).trans ((Below.heap_alloc _ _ _ (by simp)).trans e)
  have b2 : W1.heap[w.heap.size + 1 + 1 + 1]? = some (.cells #[.int .i64 from_] 3) := by
    have e := heap_alloc_new2 ((w.alloc (.cells #[.int .i64 0, .int .i64 0, .int .i64 0] 46)).alloc (.cells #[.int .i64 0, .int .i64 0, .int .i64 0] 46)) (.cells #[.slice (some ⟨b, o, none⟩) n c] 22) (.cells #[.int .i64 from_] 3)
    rw [World.size_alloc, World.size_alloc] at e
    rw [← hW]; exact (Below.heap_alloc _ _ _ (by simp)).trans e
  have b3 : W1.heap[w.heap.size + 1 + 1 + 1 + 1]? = some (.cells #[.int .i64 t] 3) := by
    have e := heap_alloc_new2 (((w.alloc (.cells #[.int .i64 0, .int .i64 0, .int .i64 0] 46)).alloc (.cells #[.int .i64 0, .int .i64 0, .int .i64 0] 46)).alloc (.cells #[.slice (some ⟨b, o, none⟩) n c] 22)) (.cells #[.int .i64 from_] 3) (.cells #[.int .i64 t] 3)
    rw [World.size_alloc, World.size_alloc, World.size_alloc] at e
    rw [← hW]; exact e
  have hB0 : Below w.heap.size w W1 := by rw [← hW]; exact (((((Below.refl _ w).alloc (Nat.le_refl _) _).alloc (by simp) _).alloc (by simp <;> omega) _).alloc (by simp <;> omega) _).alloc (by simp <;> omega) _
  clear hW
  gi_wp2
  let X : Nat → Prop := fun k => k = b ∨ k = w.heap.size + 1 + 1 ∨ k = w.heap.size + 1 + 1 + 1 ∨ k = w.heap.size + 1 + 1 + 1 + 1
  have hXW : ∀ k, X k → k < W1.heap.size := fun k hk => by simp only [X] at hk; omega
  have hXs : ∀ k, X k → k ≠ w.heap.size + 1 := fun k hk => by simp only [X] at hk; omega
  let act : Fin cnt → Nat → Act := fun x g => ⟨#[.slice (some ⟨b, o, none⟩) n c, .int .i64 from_, .int .i64 t, undef, undef, undef, .pointer (some ⟨w.heap.size, 0, none⟩), .pointer (some ⟨w.heap.size + 1, 0, none⟩), undef, .pointer (some ⟨g, 0, none⟩), .int .i64 to, .slice (some ⟨b, o, none⟩) n c, .int .i64 n, .int .i64 (min to n), .int .i64 t, .slice (some ⟨b, o, none⟩) n c, .int .i64 from_, .int .i64 f, .int .i64 t, .bool false, undef, .slice (some ⟨b, o, none⟩) n c, .int .i64 from_, .int .i64 t, .func (.func 45) #[] #[.pointer (some ⟨w.heap.size + 1 + 1, 0, none⟩), .pointer (some ⟨w.heap.size + 1 + 1 + 1, 0, none⟩), .pointer (some ⟨w.heap.size + 1 + 1 + 1 + 1, 0, none⟩)], .int .i64 ((f : Int) + (x.1 : Int)), .agg #[.int .i64 (itAt l (f + x.1)).kind, .int .i64 (itAt l (f + x.1)).w, .int .i64 (itAt l (f + x.1)).y, .int .i64 (itAt l (f + x.1)).z, .int .i64 (itAt l (f + x.1)).cost, .string (itAt l (f + x.1)).text], undef, undef, undef, undef, undef, undef, undef, undef, undef, undef, undef, undef, undef, undef, undef, undef, undef, undef, undef, undef, undef, undef, undef, undef, undef, undef, undef, undef, undef, undef, undef, undef, undef, undef, undef, undef, undef, undef, undef, undef, undef, undef, undef, undef, undef, undef, undef], []⟩
  refine wpIn_rangeFunc_ownH rfl (by omega) (gf := 45) (lb := #[.pointer (some ⟨w.heap.size + 1 + 1, 0, none⟩), .pointer (some ⟨w.heap.size + 1 + 1 + 1, 0, none⟩), .pointer (some ⟨w.heap.size + 1 + 1 + 1 + 1, 0, none⟩)]) rfl trivial (enters_of Try.func45 (by kernel_rfl) rfl)
    (hst (w.heap.size + 1 + 1) (w.heap.size + 1 + 1 + 1) (w.heap.size + 1 + 1 + 1 + 1) X (.inr (.inl rfl)) (.inr (.inr (.inl rfl))) (.inr (.inr (.inr rfl))) (.inl rfl) W1 hXW (h.below hB0) (blk_cell b1 rfl) (blk_cell b2 rfl) (blk_cell b3 rfl))
    (fun h k => h.trans k) (fun W l o o' hl h a c => Hold.obj (w := W1) hXW W l o o' hl h a c) (Below.refl _ _) (fun _ => rfl)
    (fun (pre : List (Fin cnt)) W => W.heap[w.heap.size + 1]? = some (.cells (Sm.of (its l f pre)).cells 46) ∧ But W1.heap.size (· = w.heap.size + 1) W1 W)
    (fun _ _ _ => False)
    ((blk_own (fun pre => (Sm.of (its l f pre)).cells) (by omega)).and (But.own (a := W1) (n := W1.heap.size) (X := (· = w.heap.size + 1)) (Nat.le_refl _) (Nat.le_refl _)))
    (fun _ _ _ _ _ hs _ _ => hs)
    ⟨bS, But.refl _ _ _⟩
    (fun (x : Fin cnt) a' W => ∃ g, a' = act x g ∧ W1.heap.size ≤ g ∧ W.heap[g]? = some (.cells #[.int .i64 (itAt l (f + x.1)).kind, .int .i64 (itAt l (f + x.1)).w, .int .i64 (itAt l (f + x.1)).y, .int .i64 (itAt l (f + x.1)).z, .int .i64 (itAt l (f + x.1)).cost, .string (itAt l (f + x.1)).text] 53))
    (fun x a' => itm_own act (fun x => #[.int .i64 (itAt l (f + x.1)).kind, .int .i64 (itAt l (f + x.1)).w, .int .i64 (itAt l (f + x.1)).y, .int .i64 (itAt l (f + x.1)).z, .int .i64 (itAt l (f + x.1)).cost, .string (itAt l (f + x.1)).text]) 53 x a')
    ?assign ?body ?done ?stop
  case assign =>
    rintro l0 pre x W K ⟨hs, hB⟩ hK
    have hsz := hB.size
    obtain ⟨g, hg⟩ : ∃ g, W.heap.size = g := ⟨_, rfl⟩
    simp only [wcs]
    gi_wp2
    refine hK _ _ (((KeepsOthers.alloc W _)).from _) (Hold.of_but (But.alloc (But.refl W1.heap.size (fun _ => False) W) hsz _) (fun k hk => ⟨hXW k hk, id⟩)) ⟨(Below.heap_alloc _ _ _ (by omega)).trans hs, hB.alloc hsz _⟩ ⟨g, rfl, by omega, by subst hg; exact heap_alloc_new _ _⟩
  case stop => exact fun D c pre W _ _ h _ => h.elim
  case body =>
    rintro l0 pre x a' W hl0 - ⟨bS, hB⟩ ⟨g, rfl, hg, bx⟩ hlt
    have hbd := its_bd l f pre (Nat.le_of_lt hlt)
    have hsz := hB.size
    have hglt : g < W.heap.size := (Array.getElem?_eq_some_iff.1 bx).1
    have hn := its_next l f pre x
    have hcn : (cnt : Int) ≤ 100000000000 := by omega
    simp only [Sm.cells] at bS
    generalize (Sm.of (its l f pre)).w = sw at *
    generalize (Sm.of (its l f pre)).y = sy at *
    generalize (Sm.of (its l f pre)).z = sz at *
    simp only [act]
    have hcell : (Sm.of (its l f (pre ++ [x]))).cells = #[.int .i64 (sw + (itAt l (f + x.1)).wide), .int .i64 (sy + pl (itAt l (f + x.1)).y), .int .i64 (sz + pl (itAt l (f + x.1)).z)] := by rw [hn]; rfl
    have fin : ∀ W', W'.heap[w.heap.size + 1]? = some (.cells #[.int .i64 (sw + (itAt l (f + x.1)).wide), .int .i64 (sy + pl (itAt l (f + x.1)).y), .int .i64 (sz + pl (itAt l (f + x.1)).z)] 46) → KeepsOthers W W' → But W1.heap.size (· = w.heap.size + 1) W W' →
        KeepsFrom W1.heap.size W W' ∧ Hold X W W' ∧ W'.heap[w.heap.size + 1]? = some (.cells (Sm.of (its l f (pre ++ [x]))).cells 46) ∧ But W1.heap.size (· = w.heap.size + 1) W1 W' :=
      fun W' h1 h2 h3 => ⟨h2.from _, Hold.of_but h3 (fun k hk => ⟨hXW k hk, hXs k hk⟩), by rw [hcell]; exact h1, hB.trans h3⟩
    have FIN := Lib.hid fin
    clear fin hn hcell hst
    generalize itAt l (f + x.1) = y at *
    have p1 := pl_bd y.w
    have p2 := pl_bd y.y
    have p3 := pl_bd y.z
    have q1 : IntKind.i64.wrap (sw + pl y.w) = sw + pl y.w := wrap_small _ (by omega) (by omega)
    have q2 : IntKind.i64.wrap (sy + pl y.y) = sy + pl y.y := wrap_small _ (by omega) (by omega)
    have q3 : IntKind.i64.wrap (sz + pl y.z) = sz + pl y.z := wrap_small _ (by omega) (by omega)
    have hgs : g ≠ w.heap.size + 1 := by omega
    have bg := bx
    have c0 := blk_cell bx (k := 0) rfl
    have gS := bx
    have hS : But W1.heap.size (· = w.heap.size + 1) W W := But.refl _ _ _
    have kS : KeepsOthers W W := KeepsOthers.refl W
    clear bx bg
    by_cases k3 : y.kind = 3
    · have FIN2 := FIN.out
      rw [It.wide, if_pos k3, Int.add_zero] at FIN2
      have FIN := Lib.hid FIN2
      clear FIN2
      rw [k3] at c0
      gi_wp2
      have s1 := blk_cell bS (k := 1) rfl
      have f1 := blk_frozen bS 1
      have c2 := blk_cell gS (k := 2) rfl
      refine round_still_tail 7 (by kernel_rfl) (by kernel_rfl) (then_noOut (inBlock_noOut ownG_noOut)) (by kernel_rfl) ?_
      simp only [List.take_succ_cons, List.take_zero, List.drop_succ_cons, List.drop_zero]
      repeat still_step
      still_call (still_of0 (plain_any _ _))
      repeat still_step
      refine wpStill_nil ?_
      change wpList _ _ _ _ _ (World.drew _)
      go_wp2
      generalize hWX2 : World.drew (World.setCell _ _ _) = X2
      have bX2 : X2.heap[w.heap.size + 1]? = some (.cells #[Value.int .i64 sw, Value.int .i64 (sy + pl y.y), Value.int .i64 sz] 46) := by rw [← hWX2]; exact blk_set bS 1 _
      have gX2 : X2.heap[g]? = some (.cells #[.int .i64 y.kind, .int .i64 y.w, .int .i64 y.y, .int .i64 y.z, .int .i64 y.cost, .string y.text] 53) := by rw [← hWX2]; exact blk_far (W := W) gS _ hgs
      have hX2 : But W1.heap.size (· = w.heap.size + 1) W X2 := by rw [← hWX2]; exact But.drew (But.set hS (p := ⟨w.heap.size + 1, 1, none⟩) rfl _)
      have kX2 : KeepsOthers W X2 := by rw [← hWX2]; exact (kS.trans (KeepsOthers.setCell _ _ _)).trans (KeepsOthers.drew _)
      clear hWX2 s1 f1 c2
      have s2 := blk_cell bX2 (k := 2) rfl
      have f2 := blk_frozen bX2 2
      have c3 := blk_cell gX2 (k := 3) rfl
      refine round_still_tail 7 (by kernel_rfl) (by kernel_rfl) (inBlock_noOut ownG_noOut) (by kernel_rfl) ?_
      simp only [List.take_succ_cons, List.take_zero, List.drop_succ_cons, List.drop_zero]
      repeat still_step
      still_call (still_of0 (plain_any _ _))
      repeat still_step
      refine wpStill_nil ?_
      change wpList _ _ _ _ _ (World.drew _)
      go_wp2
      generalize hWX3 : World.drew (World.setCell _ _ _) = X3
      have bX3 : X3.heap[w.heap.size + 1]? = some (.cells #[Value.int .i64 sw, Value.int .i64 (sy + pl y.y), Value.int .i64 (sz + pl y.z)] 46) := by rw [← hWX3]; exact blk_set bX2 2 _
      have gX3 : X3.heap[g]? = some (.cells #[.int .i64 y.kind, .int .i64 y.w, .int .i64 y.y, .int .i64 y.z, .int .i64 y.cost, .string y.text] 53) := by rw [← hWX3]; exact blk_far (W := X2) gX2 _ hgs
      have hX3 : But W1.heap.size (· = w.heap.size + 1) W X3 := by rw [← hWX3]; exact But.drew (But.set hX2 (p := ⟨w.heap.size + 1, 2, none⟩) rfl _)
      have kX3 : KeepsOthers W X3 := by rw [← hWX3]; exact (kX2.trans (KeepsOthers.setCell _ _ _)).trans (KeepsOthers.drew _)
      clear hWX3 s2 f2 c3
      exact FIN.out _ bX3 kX3 hX3
    · have FIN2 := FIN.out
      rw [It.wide, if_neg k3] at FIN2
      have FIN := Lib.hid FIN2
      clear FIN2
      have k3' : (y.kind != 3) = true := by simpa using k3
      gi_wp2
      have s0 := blk_cell bS (k := 0) rfl
      have f0 := blk_frozen bS 0
      have c1 := blk_cell gS (k := 1) rfl
      refine round_still_tail 7 (by kernel_rfl) (by kernel_rfl) (then_noOut (inBlock_noOut ownG_noOut)) (by kernel_rfl) ?_
      simp only [List.take_succ_cons, List.take_zero, List.drop_succ_cons, List.drop_zero]
      repeat still_step
      still_call (still_of0 (plain_any _ _))
      repeat still_step
      refine wpStill_nil ?_
      change wpList _ _ _ _ _ (World.drew _)
      go_wp2
      generalize hWX1 : World.drew (World.setCell _ _ _) = X1
      have bX1 : X1.heap[w.heap.size + 1]? = some (.cells #[Value.int .i64 (sw + pl y.w), Value.int .i64 sy, Value.int .i64 sz] 46) := by rw [← hWX1]; exact blk_set bS 0 _
      have gX1 : X1.heap[g]? = some (.cells #[.int .i64 y.kind, .int .i64 y.w, .int .i64 y.y, .int .i64 y.z, .int .i64 y.cost, .string y.text] 53) := by rw [← hWX1]; exact blk_far (W := W) gS _ hgs
      have hX1 : But W1.heap.size (· = w.heap.size + 1) W X1 := by rw [← hWX1]; exact But.drew (But.set hS (p := ⟨w.heap.size + 1, 0, none⟩) rfl _)
      have kX1 : KeepsOthers W X1 := by rw [← hWX1]; exact (kS.trans (KeepsOthers.setCell _ _ _)).trans (KeepsOthers.drew _)
      clear hWX1 s0 f0 c1
      gi_wp2
      have s1 := blk_cell bX1 (k := 1) rfl
      have f1 := blk_frozen bX1 1
      have c2 := blk_cell gX1 (k := 2) rfl
      refine round_still_tail 7 (by kernel_rfl) (by kernel_rfl) (then_noOut (inBlock_noOut ownG_noOut)) (by kernel_rfl) ?_
      simp only [List.take_succ_cons, List.take_zero, List.drop_succ_cons, List.drop_zero]
      repeat still_step
      still_call (still_of0 (plain_any _ _))
      repeat still_step
      refine wpStill_nil ?_
      change wpList _ _ _ _ _ (World.drew _)
      go_wp2
      generalize hWX2 : World.drew (World.setCell _ _ _) = X2
      have bX2 : X2.heap[w.heap.size + 1]? = some (.cells #[Value.int .i64 (sw + pl y.w), Value.int .i64 (sy + pl y.y), Value.int .i64 sz] 46) := by rw [← hWX2]; exact blk_set bX1 1 _
      have gX2 : X2.heap[g]? = some (.cells #[.int .i64 y.kind, .int .i64 y.w, .int .i64 y.y, .int .i64 y.z, .int .i64 y.cost, .string y.text] 53) := by rw [← hWX2]; exact blk_far (W := X1) gX1 _ hgs
      have hX2 : But W1.heap.size (· = w.heap.size + 1) W X2 := by rw [← hWX2]; exact But.drew (But.set hX1 (p := ⟨w.heap.size + 1, 1, none⟩) rfl _)
      have kX2 : KeepsOthers W X2 := by rw [← hWX2]; exact (kX1.trans (KeepsOthers.setCell _ _ _)).trans (KeepsOthers.drew _)
      clear hWX2 s1 f1 c2
      have s2 := blk_cell bX2 (k := 2) rfl
      have f2 := blk_frozen bX2 2
      have c3 := blk_cell gX2 (k := 3) rfl
      refine round_still_tail 7 (by kernel_rfl) (by kernel_rfl) (inBlock_noOut ownG_noOut) (by kernel_rfl) ?_
      simp only [List.take_succ_cons, List.take_zero, List.drop_succ_cons, List.drop_zero]
      repeat still_step
      still_call (still_of0 (plain_any _ _))
      repeat still_step
      refine wpStill_nil ?_
      change wpList _ _ _ _ _ (World.drew _)
      go_wp2
      generalize hWX3 : World.drew (World.setCell _ _ _) = X3
      have bX3 : X3.heap[w.heap.size + 1]? = some (.cells #[Value.int .i64 (sw + pl y.w), Value.int .i64 (sy + pl y.y), Value.int .i64 (sz + pl y.z)] 46) := by rw [← hWX3]; exact blk_set bX2 2 _
      have gX3 : X3.heap[g]? = some (.cells #[.int .i64 y.kind, .int .i64 y.w, .int .i64 y.y, .int .i64 y.z, .int .i64 y.cost, .string y.text] 53) := by rw [← hWX3]; exact blk_far (W := X2) gX2 _ hgs
      have hX3 : But W1.heap.size (· = w.heap.size + 1) W X3 := by rw [← hWX3]; exact But.drew (But.set hX2 (p := ⟨w.heap.size + 1, 2, none⟩) rfl _)
      have kX3 : KeepsOthers W X3 := by rw [← hWX3]; exact (kX2.trans (KeepsOthers.setCell _ _ _)).trans (KeepsOthers.drew _)
      clear hWX3 s2 f2 c3
      exact FIN.out _ bX3 kX3 hX3
  case done =>
    rintro D ys W hD rfl ⟨bS, hB⟩ hK
    have hbd := its_bd l f (List.finRange cnt) (by simp)
    have hcn : (cnt : Int) ≤ 100000000000 := by omega
    simp only [Sm.cells] at bS
    generalize (Sm.of (its l f (List.finRange cnt))).w = sw at *
    generalize (Sm.of (its l f (List.finRange cnt))).y = sy at *
    generalize (Sm.of (its l f (List.finRange cnt))).z = sz at *
    have hBW : Below w.heap.size w W := hB0.trans (hB.below (by omega) (fun k e => by omega))
    have bRW := hB.blk (by omega) (by omega) bR
    have hzW : w.heap.size + 5 ≤ W.heap.size := by have := hB.size; omega
    have hDn : w.heap.size ≠ D := by omega
    have hDn2 : w.heap.size + 1 ≠ D := by omega
    have hDl : D < W.heap.size := (Array.getElem?_eq_some_iff.1 hK).1
    clear bR b1 b2 b3 hst hB hB0
    have s0 := blk_cell bS (k := 0) rfl
    have s1 := blk_cell bS (k := 1) rfl
    have s2 := blk_cell bS (k := 2) rfl
    have r0 := blk_cell bRW (k := 0) rfl
    have r1 := blk_cell bRW (k := 1) rfl
    have r2 := blk_cell bRW (k := 2) rfl
    have g0 := blk_frozen bRW 0
    have g1 := blk_frozen bRW 1
    have g2 := blk_frozen bRW 2
    by_cases htl : t < n
    · have htl2 : (t : Int) < n := by omega
      obtain ⟨x, hx⟩ := get_some (l := l) (k := t) (by omega)
      obtain ⟨-, c0, c1, -⟩ := its_at (h.below hBW) hx
      have hbl : b < W.heap.size := by omega
      by_cases k3 : x.kind = 3
      · rw [k3] at c0
        have hp : Hid (penW l t = pl x.w) := Lib.hid (by simp [penW, hx, k3])
        have p1 := pl_bd x.w
        have q1 : IntKind.i64.wrap (sw + pl x.w) = sw + pl x.w := wrap_small _ (by omega) (by omega)
        have f0 := blk_frozen bS 0
        gi_wp2
        refine wpIn_wide.2 ?_
        go_still_tail 10, (by kernel_rfl)
        still_call (still_of0 (plain_any _ _))
        repeat still_step
        refine wpStill_nil ?_
        change wpList _ _ _ _ _ (World.drew _)
        go_wp2
        generalize hW2 : World.drew (World.setCell _ _ _) = W2
        have bS2 : W2.heap[w.heap.size + 1]? = some (.cells #[Value.int .i64 (sw + pl x.w), Value.int .i64 sy, Value.int .i64 sz] 46) := by rw [← hW2]; exact blk_set bS 0 _
        have bR2 : W2.heap[w.heap.size]? = some (.cells #[.int .i64 0, .int .i64 0, .int .i64 0] 46) := by rw [← hW2]; exact blk_far (W := W) bRW _ (by simp)
        have hK2 : W2.heap[D]? = some (.deferred (some [])) := by rw [← hW2]; exact blk_far (W := W) hK _ hDn2.symm
        have hB2 : Below w.heap.size w W2 := by rw [← hW2]; exact Below.drew (Below.setCell hBW (p := ⟨w.heap.size + 1, 0, none⟩) (by simp) _)
        clear hW2 s0 s1 s2 r0 r1 r2 g0 g1 g2 f0
        have s0 := blk_cell bS2 (k := 0) rfl
        have s1 := blk_cell bS2 (k := 1) rfl
        have s2 := blk_cell bS2 (k := 2) rfl
        have r0 := blk_cell bR2 (k := 0) rfl
        have r1 := blk_cell bR2 (k := 1) rfl
        have r2 := blk_cell bR2 (k := 2) rfl
        have g0 := blk_frozen bR2 0
        have g1 := blk_frozen bR2 1
        have g2 := blk_frozen bR2 2
        gi_wp2
        generalize hW9 : World.setCell (World.setCell (World.setCell W2 _ _) _ _) _ _ = W9
        have b9 : W9.heap[w.heap.size]? = some (.cells #[Value.int .i64 (sw + pl x.w), Value.int .i64 sy, Value.int .i64 sz] 46) := by rw [← hW9]; exact blk_set (blk_set (blk_set bR2 0 _) 1 _) 2 _
        have hK9 : W9.heap[D]? = some (.deferred (some [])) := by rw [← hW9]; exact blk_far (blk_far (blk_far hK2 _ hDn.symm) _ hDn.symm) _ hDn.symm
        have hB9 : Below w.heap.size w W9 := by rw [← hW9]; exact ((hB2.setCell (p := ⟨w.heap.size, 0, none⟩) (Nat.le_refl _) _).setCell (p := ⟨w.heap.size, 1, none⟩) (Nat.le_refl _) _).setCell (p := ⟨w.heap.size, 2, none⟩) (Nat.le_refl _) _
        clear hW9
        refine ⟨by simp, .inl ⟨_, _, rfl, run_takeDeferred hK9, ?_⟩⟩
        have hBp := hB9.trans (belowK_b (w := w) (Nat.le_refl _) W9 D _ (.deferred none) (by omega) hK9 rfl rfl)
        have b10 := blk_put (o' := .deferred none) b9 hDn
        have z0 := blk_cell b10 (k := 0) rfl
        have z1 := blk_cell b10 (k := 1) rfl
        have z2 := blk_cell b10 (k := 2) rfl
        refine ⟨_, by simp [results, Try.results22, go_sem, z0, z1, z2]; rfl, Ret.mk (by rw [HL.out, hp.out]; rfl) hBp⟩
      · have hp : Hid (penW l t = 0) := Lib.hid (by simp [penW, hx, k3])
        have k3' : (x.kind == 3) = false := by simpa using k3
        gi_wp2
        generalize hW9 : World.setCell (World.setCell (World.setCell W _ _) _ _) _ _ = W9
        have b9 : W9.heap[w.heap.size]? = some (.cells #[Value.int .i64 sw, Value.int .i64 sy, Value.int .i64 sz] 46) := by rw [← hW9]; exact blk_set (blk_set (blk_set bRW 0 _) 1 _) 2 _
        have hK9 : W9.heap[D]? = some (.deferred (some [])) := by rw [← hW9]; exact blk_far (blk_far (blk_far hK _ hDn.symm) _ hDn.symm) _ hDn.symm
        have hB9 : Below w.heap.size w W9 := by rw [← hW9]; exact ((hBW.setCell (p := ⟨w.heap.size, 0, none⟩) (Nat.le_refl _) _).setCell (p := ⟨w.heap.size, 1, none⟩) (Nat.le_refl _) _).setCell (p := ⟨w.heap.size, 2, none⟩) (Nat.le_refl _) _
        clear hW9
        refine ⟨by simp, .inl ⟨_, _, rfl, run_takeDeferred hK9, ?_⟩⟩
        have hBp := hB9.trans (belowK_b (w := w) (Nat.le_refl _) W9 D _ (.deferred none) (by omega) hK9 rfl rfl)
        have b10 := blk_put (o' := .deferred none) b9 hDn
        have z0 := blk_cell b10 (k := 0) rfl
        have z1 := blk_cell b10 (k := 1) rfl
        have z2 := blk_cell b10 (k := 2) rfl
        refine ⟨_, by simp [results, Try.results22, go_sem, z0, z1, z2]; rfl, Ret.mk (by rw [HL.out, hp.out]; rw [Int.add_zero]; rfl) hBp⟩
    · have htl2 : ¬ (t : Int) < n := by omega
      have hp : Hid (penW l t = 0) := Lib.hid (by rw [show t = l.length from by omega]; exact penW_end l)
      gi_wp2
      generalize hW9 : World.setCell (World.setCell (World.setCell W _ _) _ _) _ _ = W9
      have b9 : W9.heap[w.heap.size]? = some (.cells #[Value.int .i64 sw, Value.int .i64 sy, Value.int .i64 sz] 46) := by rw [← hW9]; exact blk_set (blk_set (blk_set bRW 0 _) 1 _) 2 _
      have hK9 : W9.heap[D]? = some (.deferred (some [])) := by rw [← hW9]; exact blk_far (blk_far (blk_far hK _ hDn.symm) _ hDn.symm) _ hDn.symm
      have hB9 : Below w.heap.size w W9 := by rw [← hW9]; exact ((hBW.setCell (p := ⟨w.heap.size, 0, none⟩) (Nat.le_refl _) _).setCell (p := ⟨w.heap.size, 1, none⟩) (Nat.le_refl _) _).setCell (p := ⟨w.heap.size, 2, none⟩) (Nat.le_refl _) _
      clear hW9
      refine ⟨by simp, .inl ⟨_, _, rfl, run_takeDeferred hK9, ?_⟩⟩
      have hBp := hB9.trans (belowK_b (w := w) (Nat.le_refl _) W9 D _ (.deferred none) (by omega) hK9 rfl rfl)
      have b10 := blk_put (o' := .deferred none) b9 hDn
      have z0 := blk_cell b10 (k := 0) rfl
      have z1 := blk_cell b10 (k := 1) rfl
      have z2 := blk_cell b10 (k := 2) rfl
      refine ⟨_, by simp [results, Try.results22, go_sem, z0, z1, z2]; rfl, Ret.mk (by rw [HL.out, hp.out]; rw [Int.add_zero]; rfl) hBp⟩

theorem line_any {A : Option Addr} {n c : Nat} {l : List It} (from_ to : Int) (hm : n ≤ 100000000000) {w : World} (h : Sl w w.heap.size 6 A n (encs l)) :
    Calls Try.prog 22 #[.slice A n c, .int .i64 from_, .int .i64 to] w (Ret w (.agg (line l from_ to).cells)) := by
  by_cases hft : toAt n to ≤ fst l from_
  · exact line_none from_ to hm h hft
  · exact line_some from_ to hm h (by omega)
end Go.Proofs.Ytnojikbecohhfaa
