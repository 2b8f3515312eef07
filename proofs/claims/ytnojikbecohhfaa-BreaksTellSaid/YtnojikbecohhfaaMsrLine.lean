/- The walks over the reference's Line. -/
import Derived.Test.YtnojikbecohhfaaMsrWalk
import Derived.Test.YtnojikbecohhfaaRound
import Derived.StillTailTactics
namespace Go.Proofs.Ytnojikbecohhfaa
set_option linter.unusedSimpArgs false
set_option linter.unusedVariables false
open Go.RowKit

theorem still_of0 {P : Program} {f : FuncId} {args : Array Value} {w : World} {v : Value} (h : Calls P f args w fun e w' => e = .returned v ∧ w = w') : Calls P f args w fun e w'' => e = .returned v ∧ w'' = w :=
  h.mono fun _ _ ⟨a, b⟩ => ⟨a, b.symm⟩
theorem its_at {w : World} {B n b o : Nat} {l : List It} (h : Sl w B 6 (some ⟨b, o, none⟩) n (encs l)) {k : Nat} {x : It} (hx : l[k]? = some x) :
    b < B ∧ w.cell? ⟨b, o + k * 6, none⟩ = some (.int .i64 x.kind) ∧ w.cell? ⟨b, o + k * 6 + 1, none⟩ = some (.int .i64 x.w) ∧ w.cell? ⟨b, o + k * 6 + 2, none⟩ = some (.int .i64 x.y) ∧
      w.cell? ⟨b, o + k * 6 + 3, none⟩ = some (.int .i64 x.z) ∧ w.cell? ⟨b, o + k * 6 + 4, none⟩ = some (.int .i64 x.cost) ∧ w.cell? ⟨b, o + k * 6 + 5, none⟩ = some (.string x.text) := by
  obtain ⟨b', o', e, r⟩ := its_cells h hx
  injection e with e; injection e with e1 e2
  subst e1 e2
  exact r
theorem of_next {l : List It} {f k : Nat} {x : It} (h : f ≤ k) (hx : l[k]? = some x) : Sm.of (seg l f (k + 1)) = ⟨(Sm.of (seg l f k)).w + x.wide, (Sm.of (seg l f k)).y + pl x.y, (Sm.of (seg l f k)).z + pl x.z⟩ := by
  rw [seg_next h hx]
  simp only [Sm.of, sumOf_append, sumOf, Int.add_zero]
theorem of_bd (l : List It) {n : Nat} (hl : l.length ≤ n) (f k : Nat) : 0 ≤ (Sm.of (seg l f k)).w ∧ (Sm.of (seg l f k)).w ≤ 10000 * n ∧ 0 ≤ (Sm.of (seg l f k)).y ∧ (Sm.of (seg l f k)).y ≤ 10000 * n ∧ 0 ≤ (Sm.of (seg l f k)).z ∧ (Sm.of (seg l f k)).z ≤ 10000 * n := by
  have a := sumOf_bd It.wide_bd (seg l f k)
  have b := sumOf_bd (fun x => pl_bd x.y) (seg l f k)
  have c := sumOf_bd (fun x => pl_bd x.z) (seg l f k)
  have d := seg_len' (l := l) (a := f) (b := k)
  simp only [Sm.of]
  omega

set_option maxHeartbeats 4000000 in
set_option maxRecDepth 100000 in
theorem rline_any {A : Option Addr} {n c : Nat} {l : List It} (from_ to : Int) (hm : n ≤ 100000000000) {w : World} (h : Sl w w.heap.size 6 A n (encs l)) :
    Calls Try.prog 38 #[.slice A n c, .int .i64 from_, .int .i64 to] w (Ret w (.agg (line l from_ to).cells)) := by
  have hl := its_len h
  have hm' : (n : Int) ≤ 100000000000 := by omega
  obtain ⟨t, e1, htn, ht⟩ : ∃ t : Nat, max 0 (min to (n : Int)) = (t : Int) ∧ t ≤ n ∧ toAt n to = t := ⟨(max 0 (min to (n : Int))).toNat, by omega, by omega, rfl⟩
  obtain ⟨f, hf⟩ : ∃ f : Nat, fst l from_ = f := ⟨_, rfl⟩
  have hfn : f ≤ n := by
    rw [← hf, ← hl]; exact nb_le (by unfold startAt; omega)
  have HL : Hid (line l from_ to = lineAt l f t) := Lib.hid (by unfold line; rw [hl, hf, ht])
  have hF := fun (W : World) (hW : Sl W w.heap.size 6 A n (encs l)) => rfirst_any (c := c) from_ (by omega) hW
  rw [hf] at hF
  have HF := Lib.hid hF
  clear ht hf hF
  go_enter Try.func38, Try.ntmps38
  go_wp2_with fail
  have hb0 : ∀ X Y : Obj, Below w.heap.size w ((w.alloc X).alloc Y) := fun X Y => ((Below.refl _ _).alloc (Nat.le_refl _) X).alloc (by simp) Y
  refine (HF.out _ (h.below (hb0 _ _))).mono ?_
  rintro e w1 ⟨rfl, rfl⟩
  generalize hW2 : World.alloc (World.alloc w _) _ = W2
  have bR2 : W2.heap[w.heap.size]? = some (.cells #[.int .i64 0, .int .i64 0, .int .i64 0] 77) := by rw [← hW2]; exact (Below.heap_alloc _ _ _ (by simp)).trans (heap_alloc_new _ _)
  have bS2 : W2.heap[w.heap.size + 1]? = some (.cells #[.int .i64 0, .int .i64 0, .int .i64 0] 77) := by rw [← hW2]; exact heap_alloc_new2 _ _ _
  have hB2 : Below w.heap.size w W2 := by rw [← hW2]; exact hb0 _ _
  clear hW2 hb0
  go_wp2
  go_loopw [8] (fun i wr => ∃ k : Nat, i = .int .i64 k ∧ f ≤ k ∧ (k ≤ t ∨ k = f) ∧ wr.heap[w.heap.size + 1]? = some (.cells (Sm.of (seg l f k)).cells 77) ∧ wr.heap[w.heap.size]? = some (.cells #[.int .i64 0, .int .i64 0, .int .i64 0] 77) ∧ Below w.heap.size w wr) (fun i _ => t - (intOf i).toNat)
  case atStart => exact ⟨f, rfl, Nat.le_refl _, .inr rfl, by rw [seg_nil (Nat.le_refl _)]; exact bS2, bR2, hB2⟩
  case round =>
    obtain ⟨k, rfl, hk, hk2, bS, bR, hB⟩ := hrel
    clear bR2 bS2 hB2
    have hzr := hB.size
    by_cases hlt : k < t
    · obtain ⟨x, hx⟩ := get_some (l := l) (k := k) (by omega)
      have hn := of_next hk hx
      have hbd := of_bd l (Nat.le_of_eq hl) f k
      simp only [Sm.cells] at bS
      generalize (Sm.of (seg l f k)).w = sw at *
      generalize (Sm.of (seg l f k)).y = sy at *
      generalize (Sm.of (seg l f k)).z = sz at *
      obtain ⟨b, o, rfl, hb, -⟩ := its_cells h hx
      obtain ⟨-, c0, c1, c2, c3, -⟩ := its_at (h.below hB) hx
      have p1 := pl_bd x.w
      have p2 := pl_bd x.y
      have p3 := pl_bd x.z
      have q1 : IntKind.i64.wrap (sw + pl x.w) = sw + pl x.w := wrap_small _ (by omega) (by omega)
      have q2 : IntKind.i64.wrap (sy + pl x.y) = sy + pl x.y := wrap_small _ (by omega) (by omega)
      have q3 : IntKind.i64.wrap (sz + pl x.z) = sz + pl x.z := wrap_small _ (by omega) (by omega)
      have hbl : b < wr.heap.size := by omega
      have hkn : k < n := by omega
      have hkn2 : (k : Int) < n := by omega
      have rS := bR
      have hS := hB
      by_cases k3 : x.kind = 3
      · have HN : Hid (Sm.of (seg l f (k + 1)) = ⟨sw, sy + pl x.y, sz + pl x.z⟩) := Lib.hid (by rw [hn, It.wide, if_pos k3, Int.add_zero])
        clear hn
        rw [k3] at c0
        have s1 := blk_cell bS (k := 1) rfl
        have f1 := blk_frozen bS 1
        go_wp2_with fail
        go_still_tail 10, (by kernel_rfl)
        still_call (still_of0 (rplain_any _ _))
        repeat still_step
        refine wpStill_nil ?_
        change wpList _ _ _ _ _ (World.drew _)
        go_wp2_with fail
        generalize hWX2 : World.drew (World.setCell _ _ _) = X2
        have bX2 : X2.heap[w.heap.size + 1]? = some (.cells #[Value.int .i64 sw, Value.int .i64 (sy + pl x.y), Value.int .i64 sz] 77) := by rw [← hWX2]; exact blk_set bS 1 _
        have rX2 : X2.heap[w.heap.size]? = some (.cells #[.int .i64 0, .int .i64 0, .int .i64 0] 77) := by rw [← hWX2]; exact blk_far (W := wr) rS _ (by simp)
        have hX2 : Below w.heap.size w X2 := by rw [← hWX2]; exact Below.drew (Below.setCell hS (p := ⟨w.heap.size + 1, 1, none⟩) (by simp) _)
        clear hWX2 s1 f1
        have hzX2 := hX2.size
        have hlX2 : b < X2.heap.size := by omega
        obtain ⟨-, c0, c1, c2, c3, -⟩ := its_at (h.below hX2) hx
        have s2 := blk_cell bX2 (k := 2) rfl
        have f2 := blk_frozen bX2 2
        go_wp2_with fail
        go_still_tail 10, (by kernel_rfl)
        still_call (still_of0 (rplain_any _ _))
        repeat still_step
        refine wpStill_nil ?_
        change wpList _ _ _ _ _ (World.drew _)
        go_wp2_with fail
        generalize hWX3 : World.drew (World.setCell _ _ _) = X3
        have bX3 : X3.heap[w.heap.size + 1]? = some (.cells #[Value.int .i64 sw, Value.int .i64 (sy + pl x.y), Value.int .i64 (sz + pl x.z)] 77) := by rw [← hWX3]; exact blk_set bX2 2 _
        have rX3 : X3.heap[w.heap.size]? = some (.cells #[.int .i64 0, .int .i64 0, .int .i64 0] 77) := by rw [← hWX3]; exact blk_far (W := X2) rX2 _ (by simp)
        have hX3 : Below w.heap.size w X3 := by rw [← hWX3]; exact Below.drew (Below.setCell hX2 (p := ⟨w.heap.size + 1, 2, none⟩) (by simp) _)
        clear hWX3 s2 f2
        have hzX3 := hX3.size
        have hlX3 : b < X3.heap.size := by omega
        obtain ⟨-, c0, c1, c2, c3, -⟩ := its_at (h.below hX3) hx
        go_wp2
        go_roundw
        case rel => exact ⟨k + 1, by go_num, by omega, .inl (by omega), by rw [HN.out]; exact bX3, rX3, hX3⟩
        case measure => simp [intOf]; omega
      · have HN : Hid (Sm.of (seg l f (k + 1)) = ⟨sw + pl x.w, sy + pl x.y, sz + pl x.z⟩) := Lib.hid (by rw [hn, It.wide, if_neg k3])
        clear hn
        generalize x.kind = q at *
        have k3' : (q != 3) = true := by simpa using k3
        have s0 := blk_cell bS (k := 0) rfl
        have f0 := blk_frozen bS 0
        go_wp2_with fail
        go_still_tail 10, (by kernel_rfl)
        still_call (still_of0 (rplain_any _ _))
        repeat still_step
        refine wpStill_nil ?_
        change wpList _ _ _ _ _ (World.drew _)
        go_wp2_with fail
        generalize hWX1 : World.drew (World.setCell _ _ _) = X1
        have bX1 : X1.heap[w.heap.size + 1]? = some (.cells #[Value.int .i64 (sw + pl x.w), Value.int .i64 sy, Value.int .i64 sz] 77) := by rw [← hWX1]; exact blk_set bS 0 _
        have rX1 : X1.heap[w.heap.size]? = some (.cells #[.int .i64 0, .int .i64 0, .int .i64 0] 77) := by rw [← hWX1]; exact blk_far (W := wr) rS _ (by simp)
        have hX1 : Below w.heap.size w X1 := by rw [← hWX1]; exact Below.drew (Below.setCell hS (p := ⟨w.heap.size + 1, 0, none⟩) (by simp) _)
        clear hWX1 s0 f0
        have hzX1 := hX1.size
        have hlX1 : b < X1.heap.size := by omega
        obtain ⟨-, c0, c1, c2, c3, -⟩ := its_at (h.below hX1) hx
        have s1 := blk_cell bX1 (k := 1) rfl
        have f1 := blk_frozen bX1 1
        go_wp2_with fail
        go_still_tail 10, (by kernel_rfl)
        still_call (still_of0 (rplain_any _ _))
        repeat still_step
        refine wpStill_nil ?_
        change wpList _ _ _ _ _ (World.drew _)
        go_wp2_with fail
        generalize hWX2 : World.drew (World.setCell _ _ _) = X2
        have bX2 : X2.heap[w.heap.size + 1]? = some (.cells #[Value.int .i64 (sw + pl x.w), Value.int .i64 (sy + pl x.y), Value.int .i64 sz] 77) := by rw [← hWX2]; exact blk_set bX1 1 _
        have rX2 : X2.heap[w.heap.size]? = some (.cells #[.int .i64 0, .int .i64 0, .int .i64 0] 77) := by rw [← hWX2]; exact blk_far (W := X1) rX1 _ (by simp)
        have hX2 : Below w.heap.size w X2 := by rw [← hWX2]; exact Below.drew (Below.setCell hX1 (p := ⟨w.heap.size + 1, 1, none⟩) (by simp) _)
        clear hWX2 s1 f1
        have hzX2 := hX2.size
        have hlX2 : b < X2.heap.size := by omega
        obtain ⟨-, c0, c1, c2, c3, -⟩ := its_at (h.below hX2) hx
        have s2 := blk_cell bX2 (k := 2) rfl
        have f2 := blk_frozen bX2 2
        go_wp2_with fail
        go_still_tail 10, (by kernel_rfl)
        still_call (still_of0 (rplain_any _ _))
        repeat still_step
        refine wpStill_nil ?_
        change wpList _ _ _ _ _ (World.drew _)
        go_wp2_with fail
        generalize hWX3 : World.drew (World.setCell _ _ _) = X3
        have bX3 : X3.heap[w.heap.size + 1]? = some (.cells #[Value.int .i64 (sw + pl x.w), Value.int .i64 (sy + pl x.y), Value.int .i64 (sz + pl x.z)] 77) := by rw [← hWX3]; exact blk_set bX2 2 _
        have rX3 : X3.heap[w.heap.size]? = some (.cells #[.int .i64 0, .int .i64 0, .int .i64 0] 77) := by rw [← hWX3]; exact blk_far (W := X2) rX2 _ (by simp)
        have hX3 : Below w.heap.size w X3 := by rw [← hWX3]; exact Below.drew (Below.setCell hX2 (p := ⟨w.heap.size + 1, 2, none⟩) (by simp) _)
        clear hWX3 s2 f2
        have hzX3 := hX3.size
        have hlX3 : b < X3.heap.size := by omega
        obtain ⟨-, c0, c1, c2, c3, -⟩ := its_at (h.below hX3) hx
        go_wp2
        go_roundw
        case rel => exact ⟨k + 1, by go_num, by omega, .inl (by omega), by rw [HN.out]; exact bX3, rX3, hX3⟩
        case measure => simp [intOf]; omega
    · have rS := bR
      have hS := hB
      simp only [Sm.cells] at bS
      have hbd := of_bd l (Nat.le_of_eq hl) f k
      have hv : Hid (lineAt l f t = if t ≤ f then ⟨0, 0, 0⟩ else ⟨(Sm.of (seg l f k)).w + penW l t, (Sm.of (seg l f k)).y, (Sm.of (seg l f k)).z⟩) := Lib.hid (by
        unfold lineAt
        by_cases e : t ≤ f
        · rw [if_pos e, if_pos e]
        · have e2 : k = t := by omega
          rw [if_neg e, if_neg e, e2]; rfl)
      have hz : Hid (t ≤ f → (Sm.of (seg l f k)) = ⟨0, 0, 0⟩) := Lib.hid (fun e => by
        have e2 : k = f := by omega
        rw [e2, seg_nil (Nat.le_refl _)]; rfl)
      generalize Sm.of (seg l f k) = S at *
      obtain ⟨sw, sy, sz⟩ := S
      simp only at bS hbd
      have k0 := blk_cell bS (k := 0) rfl
      have k1 := blk_cell bS (k := 1) rfl
      have k2 := blk_cell bS (k := 2) rfl
      have r0 := blk_cell rS (k := 0) rfl
      have r1 := blk_cell rS (k := 1) rfl
      have r2 := blk_cell rS (k := 2) rfl
      have g0 := blk_frozen rS 0
      have g1 := blk_frozen rS 1
      have g2 := blk_frozen rS 2
      by_cases htl : t < n
      · have htl2 : (t : Int) < n := by omega
        obtain ⟨x, hx⟩ := get_some (l := l) (k := t) (by omega)
        obtain ⟨b, o, rfl, hb, -⟩ := its_cells h hx
        obtain ⟨-, c0, c1, -⟩ := its_at (h.below hS) hx
        have hbl : b < wr.heap.size := by omega
        by_cases k3 : x.kind = 3
        · rw [k3] at c0
          have hp : Hid (penW l t = pl x.w) := Lib.hid (by simp [penW, hx, k3])
          by_cases hft : f < t
          · have hft2 : (f : Int) < t := by omega
            have p1 := pl_bd x.w
            have q1 : IntKind.i64.wrap (sw + pl x.w) = sw + pl x.w := wrap_small _ (by omega) (by omega)
            have f0 := blk_frozen bS 0
            go_wp2_with (go_at_call 37; refine (HF.out _ (h.below hS)).mono ?_; rintro e w' ⟨rfl, rfl⟩)
            go_still_tail 10, (by kernel_rfl)
            still_call (still_of0 (rplain_any _ _))
            repeat still_step
            refine wpStill_nil ?_
            change wpList _ _ _ _ _ (World.drew _)
            go_wp2
            generalize hW9 : World.drew (World.setCell (World.setCell (World.setCell _ _ _) _ _) _ _) = X9
            have bX9 : X9.heap[w.heap.size]? = some (.cells #[Value.int .i64 (sw + pl x.w), Value.int .i64 sy, Value.int .i64 sz] 77) := by rw [← hW9]; exact blk_set (blk_set (blk_set (blk_far rS _ (by simp)) 0 _) 1 _) 2 _
            have hX9 : Below w.heap.size w X9 := by rw [← hW9]; exact Below.drew ((((hS.setCell (p := ⟨w.heap.size + 1, 0, none⟩) (by simp) _).setCell (p := ⟨w.heap.size, 0, none⟩) (Nat.le_refl _) _).setCell (p := ⟨w.heap.size, 1, none⟩) (Nat.le_refl _) _).setCell (p := ⟨w.heap.size, 2, none⟩) (Nat.le_refl _) _)
            have z0 := blk_cell bX9 (k := 0) rfl
            have z1 := blk_cell bX9 (k := 1) rfl
            have z2 := blk_cell bX9 (k := 2) rfl
            clear hW9 r0 r1 r2 k0 k1 k2
            (try simp only [Exit.inBlock, Exit.then])
            refine bodyPost_ret (by simp [results, Try.results38, go_sem, z0, z1, z2]; try rfl) rfl ?_
            exact Ret.mk (by rw [HL.out, hv.out, if_neg (by omega), hp.out]; rfl) hX9
          · have hft2 : ¬ (f : Int) < t := by omega
            have hzz := hz.out (by omega)
            injection hzz with z1 z2 z3; subst z1 z2 z3
            go_wp2_with (go_at_call 37; refine (HF.out _ (h.below hS)).mono ?_; rintro e w' ⟨rfl, rfl⟩)
            generalize hW9 : World.setCell (World.setCell (World.setCell _ _ _) _ _) _ _ = X9
            have bX9 : X9.heap[w.heap.size]? = some (.cells #[Value.int .i64 0, Value.int .i64 0, Value.int .i64 0] 77) := by rw [← hW9]; exact blk_set (blk_set (blk_set rS 0 _) 1 _) 2 _
            have hX9 : Below w.heap.size w X9 := by rw [← hW9]; exact ((hS.setCell (p := ⟨w.heap.size, 0, none⟩) (Nat.le_refl _) _).setCell (p := ⟨w.heap.size, 1, none⟩) (Nat.le_refl _) _).setCell (p := ⟨w.heap.size, 2, none⟩) (Nat.le_refl _) _
            have z0 := blk_cell bX9 (k := 0) rfl
            have z1 := blk_cell bX9 (k := 1) rfl
            have z2 := blk_cell bX9 (k := 2) rfl
            clear hW9 r0 r1 r2 k0 k1 k2
            (try simp only [Exit.inBlock, Exit.then])
            refine bodyPost_ret (by simp [results, Try.results38, go_sem, z0, z1, z2]; try rfl) rfl ?_
            exact Ret.mk (by rw [HL.out, hv.out]; rw [if_pos (by omega)]; rfl) hX9
        · have hp : Hid (penW l t = 0) := Lib.hid (by simp [penW, hx, k3])
          generalize x.kind = q at *
          have hv2 : Hid (lineAt l f t = ⟨sw, sy, sz⟩) := Lib.hid (by
            rw [hv.out]
            by_cases e : t ≤ f
            · rw [if_pos e, hz.out e]
            · rw [if_neg e, hp.out, Int.add_zero])
          go_wp2_with (go_at_call 37; refine (HF.out _ (h.below hS)).mono ?_; rintro e w' ⟨rfl, rfl⟩)
          generalize hW9 : World.setCell (World.setCell (World.setCell _ _ _) _ _) _ _ = X9
          have bX9 : X9.heap[w.heap.size]? = some (.cells #[Value.int .i64 sw, Value.int .i64 sy, Value.int .i64 sz] 77) := by rw [← hW9]; exact blk_set (blk_set (blk_set rS 0 _) 1 _) 2 _
          have hX9 : Below w.heap.size w X9 := by rw [← hW9]; exact ((hS.setCell (p := ⟨w.heap.size, 0, none⟩) (Nat.le_refl _) _).setCell (p := ⟨w.heap.size, 1, none⟩) (Nat.le_refl _) _).setCell (p := ⟨w.heap.size, 2, none⟩) (Nat.le_refl _) _
          have z0 := blk_cell bX9 (k := 0) rfl
          have z1 := blk_cell bX9 (k := 1) rfl
          have z2 := blk_cell bX9 (k := 2) rfl
          clear hW9 r0 r1 r2 k0 k1 k2
          (try simp only [Exit.inBlock, Exit.then])
          refine bodyPost_ret (by simp [results, Try.results38, go_sem, z0, z1, z2]; try rfl) rfl ?_
          exact Ret.mk (by rw [HL.out, hv2.out]; rfl) hX9
      · have htl2 : ¬ (t : Int) < n := by omega
        have hp : Hid (penW l t = 0) := Lib.hid (by rw [show t = l.length from by omega]; exact penW_end l)
        have hv2 : Hid (lineAt l f t = ⟨sw, sy, sz⟩) := Lib.hid (by
          rw [hv.out]
          by_cases e : t ≤ f
          · rw [if_pos e, hz.out e]
          · rw [if_neg e, hp.out, Int.add_zero])
        go_wp2_with (go_at_call 37; refine (HF.out _ (h.below hS)).mono ?_; rintro e w' ⟨rfl, rfl⟩)
        generalize hW9 : World.setCell (World.setCell (World.setCell _ _ _) _ _) _ _ = X9
        have bX9 : X9.heap[w.heap.size]? = some (.cells #[Value.int .i64 sw, Value.int .i64 sy, Value.int .i64 sz] 77) := by rw [← hW9]; exact blk_set (blk_set (blk_set rS 0 _) 1 _) 2 _
        have hX9 : Below w.heap.size w X9 := by rw [← hW9]; exact ((hS.setCell (p := ⟨w.heap.size, 0, none⟩) (Nat.le_refl _) _).setCell (p := ⟨w.heap.size, 1, none⟩) (Nat.le_refl _) _).setCell (p := ⟨w.heap.size, 2, none⟩) (Nat.le_refl _) _
        have z0 := blk_cell bX9 (k := 0) rfl
        have z1 := blk_cell bX9 (k := 1) rfl
        have z2 := blk_cell bX9 (k := 2) rfl
        clear hW9 r0 r1 r2 k0 k1 k2
        (try simp only [Exit.inBlock, Exit.then])
        refine bodyPost_ret (by simp [results, Try.results38, go_sem, z0, z1, z2]; try rfl) rfl ?_
        exact Ret.mk (by rw [HL.out, hv2.out]; rfl) hX9
end Go.Proofs.Ytnojikbecohhfaa
