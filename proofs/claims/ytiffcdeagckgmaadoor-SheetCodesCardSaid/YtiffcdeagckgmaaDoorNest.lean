/- A loop over an iterator whose own body ranges over another iterator: a contract for such iterators (the caller's invariant abides a turn of any block that holds no cells; a round keeps what is no cells from where the iterator began), and the law of the loop that uses it. No function of the program is named here. -/
import Derived.Test.YtiffcdeagckgmaaDoorRound
import Derived.RangeFuncNested
import Derived.RangeFuncBox
namespace Go.Proofs.YtiffcdeagckgmaaDoor
set_option linter.unusedVariables false
open Go.RowKit

/-- an iterator that yields all of its values, where no round says 'no more'; rounds happen where the heap has at least m blocks, and leave those below m but X as they were -/
def SeqAll {α : Type} (F : Fence) (n : Nat) (P : Program) (g : Nat) (lb : Array Value) (encs : α → Array Value) (m : Nat) (X : Nat → Prop) (S : List α → Prop) (N : Nat) (w : World) : Prop :=
  ∀ (l : Nat) (J : List α → World → Prop) (W : World), l = w.heap.size + 1 → Below w.heap.size w W → W.heap.size = w.heap.size + 2 → OwnFrom W.heap.size J →
    (∀ pre x V, J pre V → pre.length < N → m ≤ V.heap.size → YieldAt F (n - 1) P l (encs x) V fun e V' =>
      e = .returned (.bool true) ∧ J (pre ++ [x]) V' ∧ But m (fun k => X k ∨ k = w.heap.size + 1) V V' ∧ KeepsFrom W.heap.size V V') →
    J [] W →
    CallsIn F n P g (#[.func (.yield l) #[] #[]] ++ lb) W fun e V' => (∃ v, e = .returned v) ∧ ∃ xs, S xs ∧ J xs V'
/-- how a round's body ends -/
def allPost {α : Type} (B m : Nat) (X : Nat → Prop) (I : List α → World → Prop) (xs : List α) (W : World) : Exit → Act → World → Prop
  | .normal, _, V => KeepsFrom B W V ∧ But m X W V ∧ I xs V
  | _, _, _ => False
theorem allPost_noOut {α : Type} {B m : Nat} {X : Nat → Prop} {I : List α → World → Prop} {xs : List α} {W : World} : ¬ LetsOut (allPost B m X I xs W) := fun ⟨_, _, h⟩ => h
theorem but_obj {m l : Nat} {X : Nat → Prop} (W : World) (o : Obj) : But m (fun k => X k ∨ k = l) W (W.putObj l o) :=
  ⟨rfl, rfl, rfl, by simp, fun k _ hx => World.putObj_heap_other (fun e => hx (.inr e))⟩
theorem But.or {m l : Nat} {X : Nat → Prop} {W V : World} (h : But m X W V) : But m (fun k => X k ∨ k = l) W V := ⟨h.os, h.tape, h.output, h.size, fun k hk hx => h.block k hk (fun x => hx (.inl x))⟩
theorem keeps_obj {B l : Nat} (W : World) (o : Obj) (h : l < B) : KeepsFrom B W (W.putObj l o) :=
  ⟨by simp, fun k o' hk ho _ => (World.putObj_heap_other (by omega)).trans ho⟩
theorem keeps_up {B C : Nat} {W V : World} (h : KeepsFrom B W V) (hC : B ≤ C) : KeepsFrom C W V := ⟨h.size, fun k o hk ho hc => h.same k o (by omega) ho hc⟩

section
variable {F : Fence} {n : Nat} {P : Program}
theorem wpIn_rangeFunc_all {α : Type} {g : Operand} {ps : Array Tmp} {assign body : Code} {Q : Exit → Act → World → Prop} {a : Act} {w : World}
    (hro : F.round = none) (h1 : 1 ≤ n) {gf : Nat} {lb : Array Value} (hg : a.eval g = .func (.func gf) #[] lb) (hFg : F.fn gf) (eg : ∀ args w, (callFunc gf args).run P w = .ok (.enter gf args) w)
    {encs : α → Array Value} {m : Nat} {X : Nat → Prop} {S : List α → Prop} {N : Nat} (hseq : SeqAll F (n - 1) P gf lb encs m X S N w) (hps : ∀ x, (encs x).size = ps.size)
    (I : List α → World → Prop) (hI : OwnFrom w.heap.size I) (h0 : I [] w) (Ax : α → Act → World → Prop) (hAx : ∀ x a', OwnFrom w.heap.size (fun (_ : Unit) W => Ax x a' W))
    (hassign : ∀ (l : Nat) (pre : List α) (x : α) (W : World) (K : Act → World → Prop), I pre W → m ≤ W.heap.size → (∀ a' W', KeepsFrom w.heap.size W W' → But m X W W' → I pre W' → Ax x a' W' → K a' W') →
      assign.wpIn (F.inRound l) (n - 1 - 1) P (Exit.then K (fun _ _ _ => False)) { tmps := (ps.zip (encs x)).foldl (fun t (p, v) => t.setIfInBounds p v) a.tmps, defers := [] } W)
    (hbody : ∀ (l : Nat) (pre : List α) (x : α) (a' : Act) (W : World), I pre W → Ax x a' W → pre.length < N → m ≤ W.heap.size → body.wpIn (F.inRound l) (n - 1 - 1) P (allPost w.heap.size m X I (pre ++ [x]) W) a' W)
    (hdone : ∀ (D : Nat) (xs : List α) (W : World), w.heap.size ≤ D → S xs → I xs W → W.heap[D]? = some (.deferred (some [])) → Q .normal { a with defers := { target := .collected D, args := #[] } :: a.defers } W) :
    (Code.rangeFunc g ps assign body).wpIn F n P Q a w := by
  refine wpIn_rangeFunc fun fn hfn => ?_
  rw [hro]
  let rec' : LoopState → Option Code → Loop := fun st pe => { state := st, pending := pe, fn, tmps := a.tmps, params := ps, assign, body, defers := w.heap.size }
  obtain ⟨V0, hV0⟩ : ∃ V0, (w.alloc (.deferred (some []))).alloc (.loop (rec' .ready none)) = V0 := ⟨_, rfl⟩
  have hsz : V0.heap.size = w.heap.size + 2 := by rw [← hV0]; simp
  have hrecord : V0.heap[w.heap.size + 1]? = some (.loop (rec' .ready none)) := by
    rw [← hV0]; have := World.alloc_heap_new (w.alloc (.deferred (some []))) (.loop (rec' .ready none)); rwa [World.size_alloc] at this
  have hdef : V0.heap[w.heap.size]? = some (.deferred (some [])) := by
    rw [← hV0]; exact (Below.heap_alloc _ _ _ (by simp)).trans (World.alloc_heap_new w _)
  have hI0 : I [] V0 := by rw [← hV0]; exact hI.alloc _ (hI.alloc _ h0)
  have hb0 : Below w.heap.size w V0 := by rw [← hV0]; exact ((Below.refl _ w).alloc (Nat.le_refl _) _).alloc (by simp) _
  refine ⟨w.heap.size + 1, [{ target := .collected w.heap.size, args := #[] }], V0, { target := .fn (.func gf) lb, args := #[.func (.yield (w.heap.size + 1)) #[] #[]] }, V0, gf,
    #[.func (.yield (w.heap.size + 1)) #[] #[]] ++ lb, V0, by rw [← hV0]; exact run_enterLoop_outer _ _ _ _ _, ?_, ?_, ?_, fun _ => h1, ?_⟩
  · simp only [resolve, hg]
    simp [go_sem]
  · intro f' hf'
    simp [Target.leads] at hf'
    subst hf'
    exact hFg
  · simp [invoke, go_sem, eg]
  · have hrest : ∀ {A C : World} {row : Option Nat} (k : Nat) (o : Obj), k < V0.heap.size → A.heap[k]? = some o → A.grownBy C row → (∀ r, row = some r → V0.heap.size ≤ r ∧ ∃ o : Obj, A.heap[r]? = some o ∧ o.isCells = false) → C.heap[k]? = some o :=
      fun k o hk ho hgr hr => (hgr.block k (Array.getElem?_eq_some_iff.1 ho).1 (fun e => by have := (hr k e.symm).1; omega)).trans ho
    refine (hseq (w.heap.size + 1) (fun pre W => I pre W ∧ W.heap[w.heap.size + 1]? = some (.loop (rec' .ready none)) ∧ W.heap[w.heap.size]? = some (.deferred (some []))) V0 rfl hb0 hsz
      (fun s A C row hs hgr hr => ⟨hI s A C row hs.1 hgr (fun r e => ⟨by have := (hr r e).1; omega, (hr r e).2⟩), hrest _ _ (by omega) hs.2.1 hgr hr, hrest _ _ (by omega) hs.2.2 hgr hr⟩)
      ?_ ⟨hI0, hrecord, hdef⟩).mono ?_
    · rintro pre x W ⟨hi, hl, hk⟩ hlen hm
      refine ⟨fn, _, assign, body, run_yield (P := P) (args := encs x) hl (hps x), roundIn_of_wpIn hfn (hassign _ pre x W _ hi hm ?_)⟩
      intro a' Y hkA hbA hiA hax
      have hmY := Nat.le_trans hm hbA.size
      replace hl := hkA.same _ _ (by omega) hl rfl
      replace hk := hkA.same _ _ (Nat.le_refl _) hk rfl
      have hlt := (Array.getElem?_eq_some_iff.1 hl).1
      refine ⟨_, run_beginRound hl rfl, ?_⟩
      obtain ⟨V, hV⟩ : ∃ V, Y.putObj (w.heap.size + 1) (.loop { rec' .ready none with state := .busy }) = V := ⟨_, rfl⟩
      rw [hV]
      have hl2 : V.heap[w.heap.size + 1]? = some (.loop { rec' .ready none with state := .busy }) := by rw [← hV]; exact World.putObj_heap_same hlt
      have hk2 : V.heap[w.heap.size]? = some (.deferred (some [])) := by rw [← hV]; exact (World.putObj_heap_other (by omega)).trans hk
      have hbu : But m (fun k => X k ∨ k = w.heap.size + 1) W V := by rw [← hV]; exact hbA.or.trans (but_obj Y _)
      have hkf : KeepsFrom V0.heap.size W V := by rw [← hV]; exact (keeps_up hkA (by omega)).trans (keeps_obj Y _ (by omega))
      have hi2 : I pre V := by rw [← hV]; exact hI.putObj _ hiA (by omega) hl rfl
      have hax2 : Ax x a' V := by rw [← hV]; exact (hAx x a').putObj (s := ()) _ hax (by omega) hl rfl
      refine wpIn_mono (hbody _ pre x a' V hi2 hax2 hlen (Nat.le_trans hm hbu.size)) ?_
      rintro e a3 U hp
      cases e <;> try exact hp.elim
      obtain ⟨hk3, hb3, hi3⟩ := hp
      have hl3 := hk3.same _ _ (by omega) hl2 rfl
      have hlt3 := (Array.getElem?_eq_some_iff.1 hl3).1
      refine ⟨_, _, run_endRound (P := P) none hl3, rfl, ⟨hI.putObj _ hi3 (by omega) hl3 rfl, World.putObj_heap_same hlt3, (World.putObj_heap_other (by omega)).trans (hk3.same _ _ (Nat.le_refl _) hk2 rfl)⟩, hbu.trans (hb3.or.trans (but_obj U _)), hkf.trans ((keeps_up hk3 (by omega)).trans (keeps_obj U _ (by omega)))⟩
    · rintro e U ⟨⟨v, rfl⟩, xs, hS, hi, hl, hk⟩
      exact ⟨none, _, run_endLoop (P := P) hl (by simp [rec']), hdone _ xs _ (Nat.le_refl _) hS (hI.putObj _ hi (by omega) hl rfl) ((World.putObj_heap_other (by omega)).trans hk)⟩
theorem yieldAt_round {m m' l l0 : Nat} {args : Array Value} {W : World} {R : Ending → World → Prop} (hd : F.depth = none) (h : YieldAt F m P l args W R) : YieldAt (F.inRound l0) m' P l args W R := by
  obtain ⟨fn, tmps, assign, body, h1, h2, h3⟩ := h
  refine ⟨fn, tmps, assign, body, h1, h2, fun c cs hr => h3 c cs ?_⟩
  simp only [Fence.room, hd]
  intro d hd'
  cases hd'
theorem wpIn_inRound {o : Oper} {l : Nat} {a : Act} {w : World} {K : Act → World → Prop} {Q : Exit → Act → World → Prop} (hro : F.round = none) (hd : ∀ c, o.op ≠ .defer c) (h : o.wpIn F n P a w K Q) : o.wpIn (F.inRound l) n P a w K Q := by
  refine ⟨h.1, ?_⟩
  have h2 := h.2
  rw [Oper.semAt_eq _ _ _ hd] at h2 ⊢
  exact h2
theorem wpOpsIn_inRound {ops : Array Oper} {l : Nat} {Q : Exit → Act → World → Prop} (hro : F.round = none) (hd : noDefer ops = true) : ∀ (L : List Nat) (a : Act) (w : World), wpOpsIn F n P ops Q L a w → wpOpsIn (F.inRound l) n P ops Q L a w
  | [], _, _, h => h
  | i :: rest, a, w, h => by
    have ih := wpOpsIn_inRound (l := l) (Q := Q) hro hd rest
    unfold wpOpsIn at h ⊢
    cases ho : ops[i]? with
    | none => rw [ho] at h; exact ih _ _ h
    | some o =>
      rw [ho] at h
      simp only at h ⊢
      split
      · rename_i hw
        rw [if_pos hw] at h
        exact Oper.wpIn_mono ih (wpIn_inRound hro (noDefer_spec hd ho) h)
      · rename_i hw
        rw [if_neg hw] at h
        exact ⟨h.1, ih _ _ h.2⟩
/-- a region that draws its order, in a round: walked by the fenced laws of outside of rounds (so a call of another loop's yield may stand in it) -/
theorem round_regionIn {ops : Array Oper} {l id : Nat} {Q : Exit → Act → World → Prop} {a : Act} {w : World} (hro : F.round = none) (hm : P.follows .mixedOrders = true) (hd : noDefer ops = true)
    (h : wpAnyIn F n P .any ops Q ops.size (Array.replicate ops.size false) a w.drew) : (Code.region id ops true).wpIn (F.inRound l) n P Q a w :=
  wpIn_region_draw fun t => by
    simp only [Region.schedule, hm, Bool.true_or, if_true]
    exact wpOpsIn_inRound hro hd _ _ _ (wpAnyIn_sound ops.size t _ a _ h)
end
end Go.Proofs.YtiffcdeagckgmaaDoor
