/- A loop over an iterator that makes each value in memory, writes one block of its own, and reads the value again behind the round. No function of the program is named here. -/
import Derived.Test.YtcnbonmpocddmaaNest
namespace Go.Proofs.Ytcnbonmpocddmaa
set_option linter.unusedVariables false
open Go.RowKit

/-- J at the last round's end is handed to the next one's beginning with what was made since: all blocks but BX as they were -/
def SeqR {α : Type} (F : Fence) (n : Nat) (P : Program) (g : Nat) (lb : Array Value) (encs : α → Array Value) (BX : Nat) (Rd : Nat → α → World → Prop) (S : List α → Prop) (N : Nat) (w : World) : Prop :=
  ∀ (l : Nat) (J : List α → World → Prop) (W : World), l = w.heap.size + 1 → Below w.heap.size w W → W.heap.size = w.heap.size + 2 →
    (∀ pre x V0 V, J pre V0 → pre.length < N → W.heap.size ≤ V0.heap.size → But V0.heap.size (· = BX) V0 V → Rd V0.heap.size x V → YieldAt F (n - 1) P l (encs x) V fun e V' =>
      e = .returned (.bool true) ∧ J (pre ++ [x]) V' ∧ Rd V0.heap.size x V' ∧ V'.heap[BX]? = V.heap[BX]? ∧ V.heap.size ≤ V'.heap.size) →
    J [] W →
    CallsIn F n P g (#[.func (.yield l) #[] #[]] ++ lb) W fun e V' => (∃ v, e = .returned v) ∧ ∃ xs V0, S xs ∧ J xs V0 ∧ W.heap.size ≤ V0.heap.size ∧ But V0.heap.size (· = BX) V0 V'
def rPost {α : Type} (B BX lo : Nat) (Rd : Nat → α → World → Prop) (I : List α → World → Prop) (pre : List α) (x : α) (W : World) : Exit → Act → World → Prop
  | .normal, _, V => KeepsFrom B W V ∧ V.heap[BX]? = W.heap[BX]? ∧ Rd lo x V ∧ I (pre ++ [x]) V
  | _, _, _ => False
theorem rPost_noOut {α : Type} {B BX lo : Nat} {Rd : Nat → α → World → Prop} {I : List α → World → Prop} {pre : List α} {x : α} {W : World} : ¬ LetsOut (rPost B BX lo Rd I pre x W) := fun ⟨_, _, h⟩ => h
theorem But.weak {n m : Nat} {X Y : Nat → Prop} {w w' : World} (h : But n X w w') (hm : m ≤ n) (hx : ∀ k, X k → Y k) : But m Y w w' := ⟨h.os, h.tape, h.output, h.size, fun k hk hy => h.block k (by omega) (fun x => hy (hx k x))⟩

section
variable {F : Fence} {n : Nat} {P : Program}
theorem wpIn_rangeFunc_R {α : Type} {g : Operand} {ps : Array Tmp} {assign body : Code} {Q : Exit → Act → World → Prop} {a : Act} {w : World}
    (hro : F.round = none) (h1 : 1 ≤ n) {gf : Nat} {lb : Array Value} (hg : a.eval g = .func (.func gf) #[] lb) (hFg : F.fn gf) (eg : ∀ args w, (callFunc gf args).run P w = .ok (.enter gf args) w)
    {encs : α → Array Value} {BX : Nat} {Rd : Nat → α → World → Prop} {S : List α → Prop} {N : Nat} (hBX : BX < w.heap.size) (hseq : SeqR F (n - 1) P gf lb encs BX Rd S N w) (hps : ∀ x, (encs x).size = ps.size)
    (hRd : ∀ lo x, OwnFrom w.heap.size (fun (_ : Unit) W => Rd lo x W))
    (I : List α → World → Prop) (hI : OwnFrom w.heap.size I) (h0 : I [] w) (a₁ : α → Act)
    (hassign : ∀ (l : Nat) (x : α) (W : World) (K : Act → World → Prop), K (a₁ x) W →
      assign.wpIn (F.inRound l) (n - 1 - 1) P (Exit.then K (fun _ _ _ => False)) { tmps := (ps.zip (encs x)).foldl (fun t (p, v) => t.setIfInBounds p v) a.tmps, defers := [] } W)
    (hbody : ∀ (l : Nat) (pre : List α) (x : α) (V0 V : World), I pre V0 → pre.length < N → w.heap.size + 2 ≤ V0.heap.size → But V0.heap.size (fun k => k = BX ∨ k = w.heap.size + 1) V0 V → Rd V0.heap.size x V →
      body.wpIn (F.inRound l) (n - 1 - 1) P (rPost w.heap.size BX V0.heap.size Rd I pre x V) (a₁ x) V)
    (hdone : ∀ (D : Nat) (xs : List α) (V0 V : World), D = w.heap.size → S xs → I xs V0 → w.heap.size + 2 ≤ V0.heap.size → But V0.heap.size (fun k => k = BX ∨ k = w.heap.size + 1) V0 V → V.heap[D]? = some (.deferred (some [])) → Q .normal { a with defers := { target := .collected D, args := #[] } :: a.defers } V) :
    (Code.rangeFunc g ps assign body).wpIn F n P Q a w := by
  refine wpIn_rangeFunc fun fn hfn => ?_
  rw [hro]
  let rec' : LoopState → Option Code → Loop := fun st pe => { state := st, pending := pe, fn, tmps := a.tmps, params := ps, assign, body, defers := w.heap.size }
  obtain ⟨V0, hV0⟩ : ∃ V0, (w.alloc (.deferred (some []))).alloc (.loop (rec' .ready none)) = V0 := ⟨_, rfl⟩
  have hsz : V0.heap.size = w.heap.size + 2 := by rw [← hV0]; simp
  have hrecord : V0.heap[w.heap.size + 1]? = some (.loop (rec' .ready none)) := by
    rw [← hV0]; have := World.alloc_heap_new (w.alloc (.deferred (some []))) (.loop (rec' .ready none)); rwa [World.size_alloc] at this
  have hdef : V0.heap[w.heap.size]? = some (.deferred (some [])) := by
    rw [← hV0]; exact (Below.heap_alloc _ _ _ (by simp)).trans (World.alloc_heap_new w _)
  have hI0 : I [] V0 := by rw [← hV0]; exact hI.alloc _ (hI.alloc _ h0)
  have hb0 : Below w.heap.size w V0 := by rw [← hV0]; exact ((Below.refl _ w).alloc (Nat.le_refl _) _).alloc (by simp) _
  refine ⟨w.heap.size + 1, [{ target := .collected w.heap.size, args := #[] }], V0, { target := .fn (.func gf) lb, args := #[.func (.yield (w.heap.size + 1)) #[] #[]] }, V0, gf,
    #[.func (.yield (w.heap.size + 1)) #[] #[]] ++ lb, V0, by rw [← hV0]; exact run_enterLoop_outer _ _ _ _ _, ?_, ?_, ?_, fun _ => h1, ?_⟩
  · simp only [resolve, hg]
    simp [go_sem]
  · intro f' hf'
    simp [Target.leads] at hf'
    subst hf'
    exact hFg
  · simp [invoke, go_sem, eg]
  · refine (hseq (w.heap.size + 1) (fun pre W => I pre W ∧ W.heap[w.heap.size + 1]? = some (.loop (rec' .ready none)) ∧ W.heap[w.heap.size]? = some (.deferred (some []))) V0 rfl hb0 hsz
      ?_ ⟨hI0, hrecord, hdef⟩).mono ?_
    · rintro pre x Z W ⟨hi, hl, hk⟩ hlen hZ hbZ hrd
      replace hl := hbZ.blk (by omega) (by omega) hl
      replace hk := hbZ.blk (by omega) (by omega) hk
      refine ⟨fn, _, assign, body, run_yield (P := P) (args := encs x) hl (hps x), roundIn_of_wpIn hfn (hassign _ x W _ ?_)⟩
      have hlt := (Array.getElem?_eq_some_iff.1 hl).1
      refine ⟨_, run_beginRound hl rfl, ?_⟩
      obtain ⟨V, hV⟩ : ∃ V, W.putObj (w.heap.size + 1) (.loop { rec' .ready none with state := .busy }) = V := ⟨_, rfl⟩
      rw [hV]
      have hl2 : V.heap[w.heap.size + 1]? = some (.loop { rec' .ready none with state := .busy }) := by rw [← hV]; exact World.putObj_heap_same hlt
      have hk2 : V.heap[w.heap.size]? = some (.deferred (some [])) := by rw [← hV]; exact (World.putObj_heap_other (by omega)).trans hk
      have hrd2 : Rd Z.heap.size x V := by rw [← hV]; exact (hRd Z.heap.size x).putObj (s := ()) _ hrd (by omega) hl rfl
      have hbx : V.heap[BX]? = W.heap[BX]? := by rw [← hV]; exact World.putObj_heap_other (by omega)
      have hsv : W.heap.size ≤ V.heap.size := by rw [← hV]; simp
      have hbu : But Z.heap.size (fun k => k = BX ∨ k = w.heap.size + 1) Z V := (hbZ.weak (Nat.le_refl _) (fun k e => .inl e)).trans (by
        rw [← hV]; exact ⟨rfl, rfl, rfl, by simp, fun k _ hx => World.putObj_heap_other (fun e => hx (.inr (by omega)))⟩)
      refine wpIn_mono (hbody _ pre x Z V hi hlen (by omega) hbu hrd2) ?_
      rintro e a3 U hp
      cases e <;> try exact hp.elim
      obtain ⟨hk3, hx3, hr3, hi3⟩ := hp
      have hl3 := hk3.same _ _ (by omega) hl2 rfl
      have hlt3 := (Array.getElem?_eq_some_iff.1 hl3).1
      refine ⟨_, _, run_endRound (P := P) none hl3, rfl, ⟨hI.putObj _ hi3 (by omega) hl3 rfl, World.putObj_heap_same hlt3, (World.putObj_heap_other (by omega)).trans (hk3.same _ _ (Nat.le_refl _) hk2 rfl)⟩, (hRd Z.heap.size x).putObj (s := ()) _ hr3 (by omega) hl3 rfl, (World.putObj_heap_other (by omega)).trans (hx3.trans hbx), by have := hk3.size; simp; omega⟩
    · rintro e U ⟨⟨v, rfl⟩, xs, Z, hS, ⟨hi, hl, hk⟩, hZ, hbZ⟩
      replace hl := hbZ.blk (by omega) (by omega) hl
      replace hk := hbZ.blk (by omega) (by omega) hk
      have hlt := (Array.getElem?_eq_some_iff.1 hl).1
      refine ⟨none, _, run_endLoop (P := P) hl (by simp [rec']), hdone _ xs Z _ rfl hS hi (by omega) ((hbZ.weak (Nat.le_refl _) (fun k e => .inl e)).trans ⟨rfl, rfl, rfl, by simp, fun k _ hx => World.putObj_heap_other (fun e => hx (.inr (by omega)))⟩) ((World.putObj_heap_other (by omega)).trans hk)⟩
end
end Go.Proofs.Ytcnbonmpocddmaa
