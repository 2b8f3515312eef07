/- Many cells of a block at once; struct literals with array fields; a slice as an array. No function of the program is named here. -/
import Derived.Test.YtiffcdeagckgmaaDoorRow
namespace Go.Proofs.YtiffcdeagckgmaaDoor
set_option linter.unusedSimpArgs false
set_option linter.unusedVariables false
open Go.RowKit Go.Sort

def setMany (cs : Array Value) : Nat → List Value → Array Value
  | _, [] => cs
  | o, v :: vs => setMany (cs.setIfInBounds o v) (o + 1) vs
theorem setMany_list : ∀ (vs l : List Value) (o : Nat), o + vs.length ≤ l.length → setMany l.toArray o vs = (l.take o ++ vs ++ l.drop (o + vs.length)).toArray
  | [], l, o, h => by simp [setMany]
  | v :: vs, l, o, h => by
    have ho : o < l.length := by simp at h; omega
    rw [setMany, List.setIfInBounds_toArray, setMany_list vs (l.set o v) (o + 1) (by simp at h ⊢; omega)]
    congr 1
    have e1 : (l.set o v).take (o + 1) = l.take o ++ [v] := by
      apply List.ext_getElem?
      intro i
      rw [List.getElem?_take, List.getElem?_append, List.getElem?_take, List.length_take]
      rcases Nat.lt_trichotomy i o with hi | hi | hi
      · rw [if_pos (by omega), List.getElem?_set_ne (by omega), if_pos (by omega), if_pos hi]
      · subst hi; rw [if_pos (by omega), List.getElem?_set_self ho, if_neg (by omega)]; simp [Nat.min_eq_left (Nat.le_of_lt ho)]
      · rw [if_neg (by omega), if_neg (by omega), List.getElem?_eq_none (by simp; omega)]
    rw [e1, List.drop_set_of_lt (by omega)]
    simp [Nat.add_assoc, Nat.add_comm 1]
theorem blk_sets {b : Nat} {t : TypeId} : ∀ (vs : List Value) {W : World} {cs : Array Value} (o : Nat), W.heap[b]? = some (.cells cs t) → (W.setCells b o vs).heap[b]? = some (.cells (setMany cs o vs) t)
  | [], W, cs, o, h => h
  | v :: vs, W, cs, o, h => blk_sets vs (o + 1) (blk_set h o v)
theorem sets_far : ∀ (vs : List Value) (W : World) (b o k : Nat), k ≠ b → (W.setCells b o vs).heap[k]? = W.heap[k]?
  | [], W, b, o, k, h => rfl
  | v :: vs, W, b, o, k, h => (sets_far vs (W.setCell ⟨b, o, none⟩ v) b (o + 1) k h).trans (Below.heap_setCell W ⟨b, o, none⟩ v k h)
theorem but_sets : ∀ (vs : List Value) {n : Nat} {X : Nat → Prop} {w W : World} (b o : Nat), But n X w W → X b → But n X w (W.setCells b o vs)
  | [], _, _, _, _, _, _, h, _ => h
  | v :: vs, _, _, _, _, b, o, h, hb => but_sets vs b (o + 1) (h.set (p := ⟨b, o, none⟩) hb v) hb
theorem there_blk {W : World} {b : Nat} {cs : Array Value} {t : TypeId} (h : W.heap[b]? = some (.cells cs t)) {o n : Nat} (hn : o + n ≤ cs.size) : W.there b o n := fun j hj =>
  ⟨by rw [blk_cell h (v := cs[o + j]'(by omega)) (Array.getElem?_eq_getElem (by omega))]; rfl, blk_frozen h _⟩

theorem setMany_mid {x y z v : List Value} (h : y.length = v.length) : setMany (x ++ y ++ z).toArray x.length v = (x ++ v ++ z).toArray := by
  rw [setMany_list _ _ _ (by simp; omega)]
  congr 1
  rw [List.append_assoc x y z, List.take_left, ← List.drop_drop, List.drop_left, ← h, List.drop_left]
theorem setMany_size : ∀ (vs : List Value) (cs : Array Value) (o : Nat), (setMany cs o vs).size = cs.size
  | [], cs, o => rfl
  | v :: vs, cs, o => by rw [setMany, setMany_size vs]; simp
/-- a part at its place: x ahead of it, z behind it -/
theorem setMany_at {l x y z v : List Value} {o : Nat} (hl : l = x ++ (y ++ z)) (ho : x.length = o) (h : y.length = v.length) : setMany l.toArray o v = (x ++ (v ++ z)).toArray := by
  subst hl ho
  rw [← List.append_assoc, setMany_mid h, List.append_assoc]
theorem fold_many : ∀ (vs : List Value) (k o : Nat) (cs : Array Value), (vs.zipIdx k).foldl (fun cs (x : Value × Nat) => cs.setIfInBounds (o + x.2) x.1) cs = setMany cs (o + k) vs
  | [], _, _, _ => rfl
  | v :: vs, k, o, cs => by
    rw [List.zipIdx_cons, List.foldl_cons, fold_many vs (k + 1) o, setMany]
    rfl
theorem fill_many {place : Nat → Option (Nat × Nat)} {cells : Array Value} {i : Nat} {v : Value} {rest : List (Nat × Value)} {off size : Nat} (hp : place i = some (off, size)) (hv : v.cells.size = size) (hb : off + size ≤ cells.size) :
    Instr.fill place cells ((i, v) :: rest) = Instr.fill place (setMany cells off v.cells.toList) rest := by
  rw [fill_cons hp hv hb, fold_many, Nat.add_zero]
theorem fill_end {place : Nat → Option (Nat × Nat)} {cells : Array Value} : Instr.fill place cells [] = some cells := by unfold Instr.fill; rfl
section
variable {P : Program}
theorem built_fill {t : TypeId} {z : Array Value} {pl : List (Nat × Nat)} (h : ZeroIs P t z) (hp : placesOf P t = some pl) (parts : List (Nat × Value)) : P.built t parts = Instr.fill (pl.toArray[·]?) z parts := by
  obtain ⟨i, hi, hzz, _⟩ := h.info
  unfold placesOf at hp
  cases hu : P.underlying t with
  | none => rw [hu] at hp; cases hp
  | some d =>
    rw [hu] at hp
    cases d <;> try (cases hp; done)
    unfold Program.built
    simp only [hi, hu, hzz]
    simp only at hp
    rw [hp]
    rfl
theorem run_arrayAt {t e : TypeId} {n : Nat} (hu : P.underlying t = some (.array n e)) (a : Addr) (len c : Nat) (h : n ≤ len) (w : World) : (Instr.arrayAt t (.slice (some a) len c)).run P w = .ok (.pointer (some a)) w := by
  unfold Instr.arrayAt
  simp only [Sem.run_bind, run_underlying hu, Result.andThen_ok]
  rw [if_neg (by omega)]
  rfl
theorem step_new {ops : Array Oper} {o : Oper} {a : Act} {w : World} {K : Act → World → Prop} {Q : Exit → Act → World → Prop} {E : Prop} {t : TypeId} {z : Array Value} (hgd : o.guard = none) (h : ZeroIs P t z) (ho : o.op = .alloc t)
    (hk : K (a.put o.dst (.pointer (some ⟨w.heap.size, 0, none⟩))) (w.alloc (.cells z t))) : if Region.wanted o (yielded ops a.tmps) = true then Oper.wp P o a w K Q else E := by
  have hw : Region.wanted o (yielded ops a.tmps) = true := by simp [Region.wanted, hgd]
  rw [if_pos hw]
  exact wp_new h ho hk
theorem step_row {ops : Array Oper} {o : Oper} {a : Act} {w : World} {K : Act → World → Prop} {Q : Exit → Act → World → Prop} {E : Prop} (hgd : o.guard = none) (ty : TypeId) (x y : Operand) (ho : o.op = .store ty x y)
    (g : Nat) (cells : Array Value) (hx : a.eval x = .pointer (some ⟨g, 0, none⟩)) (hy : a.eval y = .agg cells) (t : TypeId) (old : Array Value)
    (hg : w.heap[g]? = some (.cells old t)) (hi : (P.info? ty).map (·.size) = some cells.size) (hold : old.size = cells.size) (h1 : cells.all (·.oneCell') = true)
    (h : K (a.put o.dst undef) (w.setRow g cells)) : if Region.wanted o (yielded ops a.tmps) = true then Oper.wp P o a w K Q else E := by
  have hw : Region.wanted o (yielded ops a.tmps) = true := by simp [Region.wanted, hgd]
  rw [if_pos hw]
  exact wp_store_row ty x y ho g cells hx hy t old hg hi hold h1 h
theorem step_store_mid {ops : Array Oper} {o : Oper} {a : Act} {w : World} {K : Act → World → Prop} {Q : Exit → Act → World → Prop} {E : Prop} (hgd : o.guard = none) (ty : TypeId) (x y : Operand) (ho : o.op = .store ty x y)
    (g off : Nat) (cells : Array Value) (hx : a.eval x = .pointer (some ⟨g, off, none⟩)) (hy : a.eval y = .agg cells)
    (ht : w.there g off cells.size) (hi : (P.info? ty).map (·.size) = some cells.size) (h1 : cells.all (·.oneCell') = true)
    (h : K (a.put o.dst undef) (w.setCells g off cells.toList)) : if Region.wanted o (yielded ops a.tmps) = true then Oper.wp P o a w K Q else E := by
  have hw : Region.wanted o (yielded ops a.tmps) = true := by simp [Region.wanted, hgd]
  rw [if_pos hw]
  exact wp_store_mid ty x y ho g off cells hx hy ht hi h1 h
end
theorem addr_add (b o j : Nat) : (⟨b, o, none⟩ : Addr).add j = ⟨b, o + j, none⟩ := by
  unfold Addr.add
  split
  · rename_i h; rw [h, Nat.add_zero]
  · rfl
theorem newRow (w : World) (z cs : Array Value) (t : TypeId) : ∃ Y, (w.alloc (.cells z t)).setRow w.heap.size cs = Y ∧ Y.heap[w.heap.size]? = some (.cells cs t) ∧ Below w.heap.size w Y :=
  ⟨_, rfl, setRow_heap _ _ _ _ _ _ (heap_alloc_new _ _), bSetRow ((Below.refl _ _).alloc (Nat.le_refl _) _) (Nat.le_refl _) _⟩
theorem range_blk {W : World} {b : Nat} {cs : List Value} {t : TypeId} (h : W.heap[b]? = some (.cells cs.toArray t)) : W.rangeAt b 0 cs := fun j v hj => by rw [Nat.zero_add]; exact blk_cell h (by simpa using hj)
end Go.Proofs.YtiffcdeagckgmaaDoor
