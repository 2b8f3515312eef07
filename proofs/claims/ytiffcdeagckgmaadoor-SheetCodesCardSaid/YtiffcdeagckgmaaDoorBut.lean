/- Words for loops over iterators: memory that is as it was but for some boxes; a box that holds a row of the call's own. No function of the program is named here. -/
import Derived.Test.YtiffcdeagckgmaaDoorMem
import Derived.RangeFuncNested
import Derived.RangeFuncBox
namespace Go.Proofs.YtiffcdeagckgmaaDoor
open Go.RowKit

/-- as 'Below n', but for the blocks of X -/
structure But (n : Nat) (X : Nat → Prop) (w w' : World) : Prop where
  os : w'.os = w.os
  tape : w'.tape = w.tape
  output : w'.output = w.output
  size : w.heap.size ≤ w'.heap.size
  block : ∀ k, k < n → ¬ X k → w'.heap[k]? = w.heap[k]?
theorem but_of {n : Nat} {X : Nat → Prop} {w w' : World} (h : Below n w w') : But n X w w' := ⟨h.os, h.tape, h.output, h.size, fun k hk _ => h.block k hk⟩
section
variable {n : Nat} {X : Nat → Prop} {a b c w w' : World}
theorem But.refl (n : Nat) (X : Nat → Prop) (w : World) : But n X w w := ⟨rfl, rfl, rfl, Nat.le_refl _, fun _ _ _ => rfl⟩
theorem But.trans (h : But n X a b) (k : But n X b c) : But n X a c := ⟨k.os.trans h.os, k.tape.trans h.tape, k.output.trans h.output, Nat.le_trans h.size k.size, fun i hi hx => (k.block i hi hx).trans (h.block i hi hx)⟩
theorem But.below {m : Nat} (h : But n X a b) (hm : m ≤ n) (hx : ∀ k, X k → m ≤ k) : Below m a b := ⟨h.os, h.tape, h.output, h.size, fun k hk => h.block k (by omega) (fun x => by have := hx k x; omega)⟩
theorem But.drew (h : But n X w w') : But n X w w'.drew := h.trans ⟨rfl, rfl, rfl, Nat.le_refl _, fun _ _ _ => rfl⟩
theorem But.alloc (h : But n X w w') (hn : n ≤ w'.heap.size) (o : Obj) : But n X w (w'.alloc o) := h.trans (but_of ((Below.refl n w').alloc hn o))
theorem But.set (h : But n X w w') {p : Addr} (hp : X p.block) (v : Value) : But n X w (w'.setCell p v) :=
  h.trans ⟨rfl, rfl, rfl, (KeepsOthers.setCell w' p v).size, fun k _ hx => Below.heap_setCell _ _ _ k (fun e => hx (by rw [e]; exact hp))⟩
theorem But.grown {row : Option Nat} (h : But n X w w') {w'' : World} (hg : w'.grownBy w'' row) (hn : n ≤ w'.heap.size) (hr : ∀ k, row = some k → n ≤ k ∨ X k) : But n X w w'' :=
  h.trans ⟨hg.os, hg.tape, hg.output, hg.size, fun k hk hx => hg.block k (by omega) (fun e => by rcases hr k e.symm with h | h; omega; exact hx h)⟩
theorem But.own {β : Type} {B : Nat} (hn : n ≤ a.heap.size) (hB : n ≤ B) : OwnFrom B (fun (_ : β) W => But n X a W) :=
  fun _ _ _ _ hs hg hr => hs.grown hg (Nat.le_trans hn hs.size) (fun k e => .inl (Nat.le_trans hB (hr k e).1))
theorem But.blk (h : But n X a b) {k : Nat} {o : Obj} (hk : k < n) (hx : ¬ X k) (ho : a.heap[k]? = some o) : b.heap[k]? = some o := (h.block k hk hx).trans ho
theorem But.boxed (h : But n X a b) {k : Nat} {t : TypeId} {v : Value} (hk : k < n) (hx : ¬ X k) (ho : Boxed a k t v) : Boxed b k t v := h.blk hk hx ho
theorem But.range (h : But n X a b) {k o : Nat} {cs : List Value} (hk : k < n) (hx : ¬ X k) (hr : a.rangeAt k o cs) : b.rangeAt k o cs :=
  fun j v hj => (World.cell?_of_block (a := ⟨k, o + j, none⟩) (h.block k hk hx)).trans (hr j v hj)
theorem But.obj (hn : n ≤ w.heap.size) (W : World) (l : Nat) (o o' : Obj) (hl : w.heap.size ≤ l) (h : W.heap[l]? = some o) (h1 : o.isCells = false) (h2 : o.isWalk = false) : But n X W (W.putObj l o') := but_of (belowK_b hn W l o o' hl h h1 h2)
theorem But.sl (h : But n X a b) {sz k B : Nat} {A : Option Addr} {xs : List Value} (hB : B ≤ n) (hx : ∀ k, X k → B ≤ k) (hs : Sl a B sz A k xs) : Sl b B sz A k xs := hs.below (h.below hB hx)
end
/-- 'x = append(x, ..)' in a box below n, the row at or beyond n. -/
theorem box_append {W w1 : World} {n B : Nat} {t e : TypeId} {size : Nat} {v v' : Value} {k m : Nat} {xs ys : List Value} {tmp : Obj}
    (hv : Boxed W B t v) (hBn : B < n) (hrow : W.ownsRow n e size v k xs) (hn : n ≤ W.heap.size)
    (hown' : w1.ownsRow n e size v' m ys) (hgrow : (W.alloc tmp).grownBy w1 v.ownBlock) :
    Boxed w1 B t v ∧ Boxed (w1.setCell ⟨B, 0, none⟩ v') B t v' ∧ (w1.setCell ⟨B, 0, none⟩ v').ownsRow n e size v' m ys ∧ KeepsOthers W (w1.setCell ⟨B, 0, none⟩ v') ∧ But n (· = B) W (w1.setCell ⟨B, 0, none⟩ v') := by
  have ge : ∀ j, v.ownBlock = some j → n ≤ j := own_ge hrow
  have hv1 : Boxed w1 B t v := (hv.alloc tmp).kept hgrow (fun e => by have := ge B e.symm; omega)
  refine ⟨hv1, hv1.set v', ?_, ?_, ?_⟩
  · refine hown'.kept (grownBy_setCell' w1 B v') (.inr fun e => ?_)
    have := own_ge hown' B e
    omega
  · refine ((KeepsOthers.alloc W tmp).trans (KeepsOthers.of_grownBy hgrow fun j o ej hj => ?_)).trans (KeepsOthers.setCell _ _ _)
    rcases (hrow.alloc tmp).2 with ⟨rfl, _⟩ | ⟨g, cap, cur, rfl, _, hgb, _⟩
    · simp [Value.ownBlock] at ej
    · obtain rfl : g = j := by simpa [Value.ownBlock] using ej
      rw [hgb] at hj; cases hj; rfl
  · exact (((But.refl n _ W).alloc hn tmp).grown hgrow (by simp; omega) (fun j ej => .inl (ge j ej))).set (X := (· = B)) (p := ⟨B, 0, none⟩) rfl v'
end Go.Proofs.YtiffcdeagckgmaaDoor
