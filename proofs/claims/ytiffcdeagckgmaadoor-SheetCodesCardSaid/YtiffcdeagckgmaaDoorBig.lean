/- Great arrays and structs: what the table says of their zero, as one fact; new variables of them, literals of them. No function of the program is named here. -/
import Derived.Test.YtiffcdeagckgmaaDoorBase
import Derived.Great.FillDense
import Derived.Great.Walk
import Derived.BigFrameIn
import Derived.StillTailTactics
namespace Go.Proofs.YtiffcdeagckgmaaDoor
set_option linter.unusedSimpArgs false
set_option linter.unusedVariables false
open Go.RowKit
section
variable {P : Program}
def ZeroIs (P : Program) (t : TypeId) (z : Array Value) : Prop := (P.info? t).map (fun i => (i.zero, i.size)) = some (some (.agg z), z.size)
theorem ZeroIs.info {t : TypeId} {z : Array Value} (h : ZeroIs P t z) : ∃ i, P.info? t = some i ∧ i.zero = some (.agg z) ∧ i.size = z.size := by
  unfold ZeroIs at h
  cases hq : P.info? t with
  | none => rw [hq] at h; cases h
  | some i =>
    rw [hq] at h
    simp only [Option.map_some, Option.some.injEq, Prod.mk.injEq] at h
    exact ⟨i, rfl, h.1, h.2⟩
theorem run_zero {t : TypeId} {z : Array Value} (h : ZeroIs P t z) (w : World) : (zeroValue t).run P w = .ok (.agg z) w := by
  obtain ⟨i, hi, hz, _⟩ := h.info
  simp [zeroValue, typeInfo, hi, hz]
theorem run_new {t : TypeId} {z : Array Value} (h : ZeroIs P t z) (old : Value) (w : World) : (Instr.alloc t true old).run P w = .ok (.pointer (some ⟨w.heap.size, 0, none⟩)) (w.alloc (.cells z t)) := by
  simp [Instr.alloc, Sem.run_bind, run_zero h, newVar, newRow, Value.cells]
theorem wp_new {o : Oper} {a : Act} {w : World} {K : Act → World → Prop} {Q : Exit → Act → World → Prop} {t : TypeId} {z : Array Value} (h : ZeroIs P t z) (ho : o.op = .alloc t)
    (hk : K (a.put o.dst (.pointer (some ⟨w.heap.size, 0, none⟩))) (w.alloc (.cells z t))) : o.wp P a w K Q := by
  unfold Oper.wp execOp
  simp only [ho, Sem.run_bind, run_new h, Result.andThen_ok, Sem.run_pure]
  exact hk
theorem wpList_new {ops : Array Oper} {rest : List Oper} {o : Oper} {a : Act} {w : World} {Q : Exit → Act → World → Prop} (hgd : o.guard = none) {t : TypeId} {z : Array Value} (h : ZeroIs P t z) (ho : o.op = .alloc t)
    (hk : wpList P ops Q rest (a.put o.dst (.pointer (some ⟨w.heap.size, 0, none⟩))) (w.alloc (.cells z t))) : wpList P ops Q (o :: rest) a w :=
  wpList_plain hgd fun _ hK => wp_new h ho (hK _ _ hk)
/-- an operation that yields, or stores, in fenced code -/
theorem wpListIn_val {F : Fence} {n : Nat} {ops : Array Oper} {rest : List Oper} {o : Oper} {a : Act} {w w' : World} {Q : Exit → Act → World → Prop} {v : Value} (hw : Region.wanted o (yielded ops a.tmps) = true) (hd : ∀ c, o.op ≠ .defer c) (ha : o.about P w a.eval = none)
    (hrun : (execOp a.eval o).run P w = .ok (.value v) w') (hk : wpListIn F n P ops Q rest (a.put o.dst v) w') : wpListIn F n P ops Q (o :: rest) a w :=
  BigFrame.wpListIn_want hw fun K hK => by
    refine ⟨fun c hc => (by rw [ha] at hc; cases hc), ?_⟩
    rw [Oper.semAt_eq _ _ _ hd, hrun]
    exact hK _ _ hk
theorem wpListIn_skip {F : Fence} {n : Nat} {ops : Array Oper} {rest : List Oper} {o : Oper} {a : Act} {w w' : World} {Q : Exit → Act → World → Prop} (hw : Region.wanted o (yielded ops a.tmps) = true) (hd : ∀ c, o.op ≠ .defer c) (ha : o.about P w a.eval = none)
    (hrun : (execOp a.eval o).run P w = .ok .skip w') (hk : wpListIn F n P ops Q rest (a.put o.dst undef) w') : wpListIn F n P ops Q (o :: rest) a w :=
  BigFrame.wpListIn_want hw fun K hK => by
    refine ⟨fun c hc => (by rw [ha] at hc; cases hc), ?_⟩
    rw [Oper.semAt_eq _ _ _ hd, hrun]
    exact hK _ _ hk
theorem exec_new {ρ : Operand → Value} {o : Oper} {t : TypeId} {z : Array Value} (h : ZeroIs P t z) (ho : o.op = .alloc t) (w : World) : (execOp ρ o).run P w = .ok (.value (.pointer (some ⟨w.heap.size, 0, none⟩))) (w.alloc (.cells z t)) := by
  unfold execOp
  simp only [ho, Sem.run_bind, run_new h, Result.andThen_ok, Sem.run_pure]
theorem exec_store_row {ρ : Operand → Value} {o : Oper} {ty : TypeId} {x y : Operand} (ho : o.op = .store ty x y) {g : Nat} {cells : Array Value} (hx : ρ x = .pointer (some ⟨g, 0, none⟩)) (hy : ρ y = .agg cells)
    {w : World} {t : TypeId} {old : Array Value} (hg : w.heap[g]? = some (.cells old t (0, 0))) (hi : (P.info? ty).map (·.size) = some cells.size)
    (hold : old.size = cells.size) (h1 : cells.all (·.oneCell') = true) : (execOp ρ o).run P w = .ok .skip (w.setRow g cells) := by
  unfold execOp
  simp only [ho, hx, hy, Instr.storeAt, Instr.sureAddr, Sem.run_bind, Sem.run_pure, Result.andThen_ok, run_storeVar_row w g t ty old cells hg hi hold h1]

/-! ### literals -/
theorem wp_built {o : Oper} {a : Act} {w : World} {K : Act → World → Prop} {Q : Exit → Act → World → Prop} (t : TypeId) (parts : Array (Nat × Operand)) (ho : o.op = .build t parts) {cs : Array Value}
    (hf : P.built t (parts.map fun (i, x) => (i, a.eval x)).toList = some cs) (h : K (a.put o.dst (.agg cs)) w) : o.wp P a w K Q := by
  unfold Oper.wp execOp
  simp only [ho, Sem.run_bind, run_build w t _ cs hf, Result.andThen_ok, Sem.run_pure]
  exact h
theorem wpList_built {ops : Array Oper} {rest : List Oper} {o : Oper} {a : Act} {w : World} {Q : Exit → Act → World → Prop} (hgd : o.guard = none) (t : TypeId) (parts : Array (Nat × Operand)) (ho : o.op = .build t parts) {cs : Array Value}
    (hf : P.built t (parts.map fun (i, x) => (i, a.eval x)).toList = some cs) (h : wpList P ops Q rest (a.put o.dst (.agg cs)) w) : wpList P ops Q (o :: rest) a w :=
  wpList_plain hgd fun _ hK => wp_built t parts ho hf (hK _ _ h)
theorem built_none {t e : TypeId} {n : Nat} {z : Array Value} (h : ZeroIs P t z) (hu : P.underlying t = some (.array n e)) (he : (P.info? e).isSome = true) : P.built t [] = some z := by
  obtain ⟨i, hi, hz, _⟩ := h.info
  obtain ⟨j, hj⟩ := Option.isSome_iff_exists.1 he
  simp [Program.built, hi, hu, hz, hj, Instr.fill, Value.cells]
def placesOf (P : Program) (t : TypeId) : Option (List (Nat × Nat)) := match P.underlying t with
  | some (.struct fields) => fields.toList.mapM (fun f => (P.info? f.type).map fun i => (f.offset, i.size))
  | _ => none
theorem fill_cons {place : Nat → Option (Nat × Nat)} {cells : Array Value} {i : Nat} {v : Value} {rest : List (Nat × Value)} {off size : Nat} (hp : place i = some (off, size)) (hv : v.cells.size = size) (hb : off + size ≤ cells.size) :
    Instr.fill place cells ((i, v) :: rest) = Instr.fill place ((v.cells.toList.zipIdx 0).foldl (fun cs (x : Value × Nat) => cs.setIfInBounds (off + x.2) x.1) cells) rest := by
  have h1 : (v.cells.size ≠ size || off + v.cells.size > cells.size) = false := by simp; omega
  have e : v.cells.zipIdx.foldl (fun cs (x : Value × Nat) => cs.setIfInBounds (off + x.2) x.1) cells = (v.cells.toList.zipIdx 0).foldl (fun cs (x : Value × Nat) => cs.setIfInBounds (off + x.2) x.1) cells := by
    rw [← Array.foldl_toList, Array.toList_zipIdx]
  rw [← e]
  conv => lhs; unfold Instr.fill
  simp only [hp, h1]
  rfl
theorem fill_two {n : Nat} {z : Array Value} (hz : z.size = n + 1) (v : Value) (hv : v.cells = #[v]) (cs : List Value) (hn : cs.length = n) :
    Instr.fill (([(0, 1), (1, n)] : List (Nat × Nat)).toArray[·]?) z [(0, v), (1, .agg cs.toArray)] = some (v :: cs).toArray := by
  obtain ⟨h1, h2⟩ := Great.foldl_set 1 cs 0 (z.setIfInBounds 0 v)
  rw [fill_cons (off := 0) (size := 1) rfl (by rw [hv]; rfl) (by omega)]
  have e0 : (v.cells.toList.zipIdx 0).foldl (fun cs (x : Value × Nat) => cs.setIfInBounds (0 + x.2) x.1) z = z.setIfInBounds 0 v := by rw [hv]; rfl
  rw [e0, fill_cons (off := 1) (size := n) rfl (by show cs.toArray.size = n; simpa using hn) (by rw [Array.size_setIfInBounds]; omega)]
  show some _ = _
  congr 1
  show (cs.zipIdx 0).foldl (fun cs (x : Value × Nat) => cs.setIfInBounds (1 + x.2) x.1) (z.setIfInBounds 0 v) = _
  apply Array.ext_getElem?
  intro k
  rw [h2 k, Array.size_setIfInBounds, show (v :: cs).toArray[k]? = (v :: cs)[k]? from List.getElem?_toArray]
  rcases k with _ | k
  · rw [if_neg (by omega), Array.getElem?_setIfInBounds_self_of_lt (by omega)]; rfl
  · rw [List.getElem?_cons_succ]
    by_cases hk : k < n
    · rw [if_pos (by omega)]
      congr 1
    · rw [if_neg (by omega), Array.getElem?_eq_none (by simp; omega), List.getElem?_eq_none (by omega)]
theorem built_two {t : TypeId} {n : Nat} {z : Array Value} (h : ZeroIs P t z) (hz : z.size = n + 1) (hp : placesOf P t = some [(0, 1), (1, n)]) (v : Value) (hv : v.cells = #[v]) (cs : List Value) (hn : cs.length = n) :
    P.built t [(0, v), (1, .agg cs.toArray)] = some (v :: cs).toArray := by
  obtain ⟨i, hi, hzz, _⟩ := h.info
  unfold placesOf at hp
  cases hu : P.underlying t with
  | none => rw [hu] at hp; cases hp
  | some d =>
    rw [hu] at hp
    cases d <;> try (cases hp; done)
    rename_i fields
    unfold Program.built
    simp only [hi, hu, hzz]
    simp only at hp
    rw [hp]
    exact fill_two hz v hv cs hn
/-- a slice literal of one part -/
theorem fill_one {s : Nat} {z : Array Value} (hz : z.size = s) (cs : List Value) (hn : cs.length = s) :
    Instr.fill (fun i => some (i * s, s)) z [(0, .agg cs.toArray)] = some cs.toArray := by
  obtain ⟨h1, h2⟩ := Great.foldl_set 0 cs 0 z
  rw [fill_cons (off := 0) (size := s) (by rw [Nat.zero_mul]) (by show cs.toArray.size = s; simpa using hn) (by omega)]
  show some _ = _
  congr 1
  show (cs.zipIdx 0).foldl (fun cs (x : Value × Nat) => cs.setIfInBounds (0 + x.2) x.1) z = _
  apply Array.ext_getElem?
  intro k
  rw [h2 k, show cs.toArray[k]? = cs[k]? from List.getElem?_toArray]
  by_cases hk : k < s
  · rw [if_pos (by omega)]; congr 1
  · rw [if_neg (by omega), Array.getElem?_eq_none (by omega), List.getElem?_eq_none (by omega)]
theorem run_slice1 {t e : TypeId} {s : Nat} {z : Array Value} (h : ZeroIs P e z) (hu : P.underlying t = some (.slice e)) (hz : z.size = s) (h0 : 0 < s) (h9 : s ≤ 1000) (cs : List Value) (hn : cs.length = s) (w : World) :
    (Instr.buildSlice t 1 #[(0, .agg cs.toArray)]).run P w = .ok (.slice (some ⟨w.heap.size, 0, none⟩) 1 1) (w.alloc (.cells cs.toArray e)) := by
  obtain ⟨i, hi, hzz, hs⟩ := h.info
  refine run_buildSlice w t e 1 _ cs.toArray i (.agg z) hu hi hzz (by rw [hs]; omega) (by rw [hs]; omega) ?_
  rw [hs, hz]
  refine fill_one ?_ cs hn
  simp
/-! ### as operations that yield (regions that draw) -/
theorem exec_load_row {ρ : Operand → Value} {o : Oper} {ty : TypeId} {x : Operand} (ho : o.op = .load ty x) {b off : Nat} (hx : ρ x = .pointer (some ⟨b, off, none⟩)) {w : World} {cs : List Value} (hr : w.rangeAt b off cs) {d : TypeDesc}
    (hu : P.underlying ty = some d) (hd : d.isRow = true) (hi : (P.info? ty).map (·.size) = some cs.length) : (execOp ρ o).run P w = .ok (.value (.agg cs.toArray)) w := by
  unfold execOp
  simp only [ho, hx, Instr.loadAt, Instr.sureAddr, Sem.run_bind, Sem.run_pure, Result.andThen_ok, run_loadVar_mid w b off ty cs d hr hu hd hi]
theorem exec_built {ρ : Operand → Value} {o : Oper} {t : TypeId} {parts : Array (Nat × Operand)} (ho : o.op = .build t parts) {cs : Array Value}
    (hf : P.built t (parts.map fun (i, x) => (i, ρ x)).toList = some cs) (w : World) : (execOp ρ o).run P w = .ok (.value (.agg cs)) w := by
  unfold execOp
  simp only [ho, Sem.run_bind, run_build w t _ cs hf, Result.andThen_ok, Sem.run_pure]
theorem wpStill_load_row {ops : Array Oper} {w : World} {Q : Act → Prop} {rest : List Oper} {o : Oper} {a : Act} (hw : Region.wanted o (yielded ops a.tmps) = true) (ty : TypeId) (x : Operand) (ho : o.op = .load ty x) (b off : Nat) (hx : a.eval x = .pointer (some ⟨b, off, none⟩))
    (cs : List Value) (hr : w.rangeAt b off cs) (d : TypeDesc) (hu : P.underlying ty = some d) (hd : d.isRow = true) (hi : (P.info? ty).map (·.size) = some cs.length) (h : wpStill P ops w Q rest (a.put o.dst (.agg cs.toArray))) : wpStill P ops w Q (o :: rest) a := by
  unfold wpStill
  rw [if_pos hw]
  unfold Oper.still
  rw [exec_load_row ho hx hr hu hd hi, Oper.stillUpon_value]
  exact h
end
end Go.Proofs.YtiffcdeagckgmaaDoor
