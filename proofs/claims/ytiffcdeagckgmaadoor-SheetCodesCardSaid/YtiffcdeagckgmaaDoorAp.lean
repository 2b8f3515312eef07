/- An own row that is appended to, and blocks that were made beside it, in a region that draws its order. No function of the program is named here. -/
import Derived.Test.YtiffcdeagckgmaaDoorRow
import Derived.Test.YtiffcdeagckgmaaDoorMem
namespace Go.Proofs.YtiffcdeagckgmaaDoor
set_option linter.unusedSimpArgs false
set_option linter.unusedVariables false
open Go.RowKit Go.Sort

structure Ap (Z V : World) (e : TypeId) (sz : Nat) (v : Value) (n : Nat) (xs : List Value) (G : List (Nat × Obj)) : Prop where
  below : Below Z.heap.size Z V
  own : V.ownsRow Z.heap.size e sz v n xs
  blk : ∀ g o, (g, o) ∈ G → V.heap[g]? = some o ∧ v.ownBlock ≠ some g ∧ Z.heap.size ≤ g
theorem Ap.start (Z : World) (e : TypeId) (sz : Nat) : Ap Z Z.drew e sz (.slice none 0 0) 0 [] [] :=
  ⟨(Below.refl _ _).drew, World.ownsRow_nil _ _ _ _, fun g o h => by cases h⟩
theorem Ap.ge {Z V : World} {e : TypeId} {sz : Nat} {v : Value} {n : Nat} {xs : List Value} {G : List (Nat × Obj)} (h : Ap Z V e sz v n xs G) : Z.heap.size ≤ V.heap.size := h.below.size
theorem Ap.new {Z V : World} {e : TypeId} {sz : Nat} {v : Value} {n : Nat} {xs : List Value} {G : List (Nat × Obj)} (h : Ap Z V e sz v n xs G) (o : Obj) : Ap Z (V.alloc o) e sz v n xs ((V.heap.size, o) :: G) := by
  refine ⟨h.below.alloc h.ge _, h.own.alloc _, fun g o' hm => ?_⟩
  rcases List.mem_cons.1 hm with hm | hm
  · cases hm
    exact ⟨heap_alloc_new _ _, fun he => by have := (h.own.lt _ he).2; omega, h.ge⟩
  · obtain ⟨h1, h2, h3⟩ := h.blk g o' hm
    exact ⟨bBlk ((Below.refl V.heap.size V).alloc (Nat.le_refl _) _) (Array.getElem?_eq_some_iff.1 h1).1 h1, h2, h3⟩
theorem Ap.own0 {Z V : World} {e : TypeId} {sz : Nat} {G : List (Nat × Obj)} (h : Ap Z V e sz (.slice none 0 0) 0 [] G) : Ap Z (V.alloc (.cells #[] e)) e sz (.slice (some ⟨V.heap.size, 0, none⟩) 0 0) 0 [] G := by
  refine ⟨h.below.alloc h.ge _, own_none' V Z.heap.size e sz h.ge, fun g o hm => ?_⟩
  obtain ⟨h1, h2, h3⟩ := h.blk g o hm
  have hlt := (Array.getElem?_eq_some_iff.1 h1).1
  refine ⟨bBlk ((Below.refl V.heap.size V).alloc (Nat.le_refl _) _) hlt h1, fun he => ?_, h3⟩
  have : V.heap.size = g := by simpa [Value.ownBlock] using he
  omega
theorem Ap.app {Z V w' : World} {e : TypeId} {sz : Nat} {v v' : Value} {n n' : Nat} {xs ys : List Value} {G : List (Nat × Obj)} (h : Ap Z V e sz v n xs G) (hown : w'.ownsRow Z.heap.size e sz v' n' ys) (hg : V.grownBy w' v.ownBlock) (hb : Below Z.heap.size V w')
    (hat : v'.ownBlock = v.ownBlock ∨ v'.ownBlock = some V.heap.size) : Ap Z w' e sz v' n' ys G := by
  refine ⟨h.below.trans hb, hown, fun g o hm => ?_⟩
  obtain ⟨h1, h2, h3⟩ := h.blk g o hm
  have hlt := (Array.getElem?_eq_some_iff.1 h1).1
  refine ⟨(hg.block g hlt (fun e => h2 e.symm)).trans h1, fun he => ?_, h3⟩
  rcases hat with h4 | h4
  · exact h2 (h4.symm.trans he)
  · have : V.heap.size = g := by rw [h4] at he; simpa using he
    omega
/-- a block beside the row is written -/
theorem Ap.row {Z V : World} {e t : TypeId} {sz g : Nat} {v : Value} {n : Nat} {xs : List Value} {G : List (Nat × Obj)} {z : Array Value} (h : Ap Z V e sz v n xs G) (hm : (g, Obj.cells z t) ∈ G) (cs : Array Value) :
    Below Z.heap.size Z (V.setRow g cs) ∧ (V.setRow g cs).ownsRow Z.heap.size e sz v n xs ∧ (V.setRow g cs).heap[g]? = some (.cells cs t) ∧ v.ownBlock ≠ some g ∧ Z.heap.size ≤ g := by
  obtain ⟨h1, h2, h3⟩ := h.blk g _ hm
  refine ⟨bSetRow h.below h3 _, ?_, setRow_heap _ _ _ _ _ _ h1, h2, h3⟩
  refine ⟨h.own.1, ?_⟩
  rcases h.own.2 with h4 | ⟨q, cap, cur, e1, h5, h6, h7⟩
  · exact .inl h4
  · refine .inr ⟨q, cap, cur, e1, h5, (setRow_other _ _ _ _ (fun e2 => h2 (by rw [e1, ← e2]; rfl))).trans h6, h7⟩
theorem step_slice {P : Program} {ops : Array Oper} {o : Oper} {a : Act} {w w' : World} {K : Act → World → Prop} {Q : Exit → Act → World → Prop} {E : Prop} (hgd : o.guard = none) (t : TypeId) (k : Nat) (parts : Array (Nat × Operand)) (ho : o.op = .buildSlice t k parts) {v : Value}
    (hrun : (Instr.buildSlice t k (parts.map fun (i, x) => (i, a.eval x))).run P w = .ok v w') (h : K (a.put o.dst v) w') : if Region.wanted o (yielded ops a.tmps) = true then Oper.wp P o a w K Q else E := by
  have hw : Region.wanted o (yielded ops a.tmps) = true := by simp [Region.wanted, hgd]
  rw [if_pos hw]
  unfold Oper.wp execOp
  simp only [ho, Sem.run_bind, hrun, Result.andThen_ok, Sem.run_pure]
  exact h
/-- the steps, with the new world and the new block's number as variables -/
theorem Ap.go0 {Z V : World} {e : TypeId} {sz : Nat} {G : List (Nat × Obj)} {K : Act → World → Prop} {a : Act} {d : Option Nat} (hA : Ap Z V e sz (.slice none 0 0) 0 [] G)
    (h : ∀ U g, Ap Z U e sz (.slice (some ⟨g, 0, none⟩) 0 0) 0 [] G → K (a.put d (.slice (some ⟨g, 0, none⟩) 0 0)) U) : K (a.put d (.slice (some ⟨V.heap.size, 0, none⟩) 0 0)) (V.alloc (.cells #[] e)) := h _ _ hA.own0
theorem Ap.go1 {Z V : World} {e : TypeId} {sz n : Nat} {v : Value} {xs : List Value} {G : List (Nat × Obj)} {o : Obj} {K : Act → World → Prop} {a : Act} {d : Option Nat} (hA : Ap Z V e sz v n xs G)
    (h : ∀ U g, Ap Z U e sz v n xs ((g, o) :: G) → K (a.put d (.slice (some ⟨g, 0, none⟩) 1 1)) U) : K (a.put d (.slice (some ⟨V.heap.size, 0, none⟩) 1 1)) (V.alloc o) := h _ _ (hA.new o)
theorem Ap.goP {Z V : World} {e : TypeId} {sz n : Nat} {v : Value} {xs : List Value} {G : List (Nat × Obj)} {o : Obj} {K : Act → World → Prop} {a : Act} {d : Option Nat} (hA : Ap Z V e sz v n xs G)
    (h : ∀ U g, Ap Z U e sz v n xs ((g, o) :: G) → K (a.put d (.pointer (some ⟨g, 0, none⟩))) U) : K (a.put d (.pointer (some ⟨V.heap.size, 0, none⟩))) (V.alloc o) := h _ _ (hA.new o)
end Go.Proofs.YtiffcdeagckgmaaDoor
