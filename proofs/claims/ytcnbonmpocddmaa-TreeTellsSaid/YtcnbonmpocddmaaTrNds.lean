/- A level's nodes. -/
import Derived.Test.YtcnbonmpocddmaaTrDec
import Derived.Test.YtcnbonmpocddmaaChunkD
namespace Go.Proofs.Ytcnbonmpocddmaa
set_option linter.unusedSimpArgs false
set_option linter.unusedVariables false
open Go.RowKit Go.Shelf Go.Sort

/-! ### slices of bytes as elements -/
abbrev SlB := Option Addr × Nat × List UInt8
def slv (x : SlB) : Value := .slice x.1 x.2.2.length x.2.1
/-- a text of its own, not in v's row -/
structure NdF (W : World) (lo : Nat) (v : Value) (x : SlB) : Prop where
  ex : ∃ b cur, x.1 = some ⟨b, 0, none⟩ ∧ lo ≤ b ∧ v.ownBlock ≠ some b ∧ W.heap[b]? = some (.cells cur 5) ∧ cur.toList.take x.2.2.length = bvs x.2.2
  cap : x.2.2.length ≤ x.2.1
  max : x.2.1 ≤ maxLen
theorem NdF.kept {W W' : World} {lo : Nat} {v v' : Value} {x : SlB} (h : NdF W lo v x) (hb : ∀ (b : Nat) (o : Obj), lo ≤ b → v.ownBlock ≠ some b → W.heap[b]? = some o → o.isCells = true → W'.heap[b]? = some o) (hv : ∀ b, b < W.heap.size → v.ownBlock ≠ some b → v'.ownBlock ≠ some b) : NdF W' lo v' x := by
  obtain ⟨⟨b, cur, e, h1, h2, h3, h4⟩, hc, hm⟩ := h
  exact ⟨⟨b, cur, e, h1, hv b (Array.getElem?_eq_some_iff.1 h3).1 h2, hb b _ h1 h2 h3 rfl, h4⟩, hc, hm⟩
theorem NdF.sl {W : World} {lo : Nat} {v : Value} {x : SlB} (h : NdF W lo v x) : Sl W W.heap.size 1 x.1 x.2.2.length (bvs x.2.2) := by
  obtain ⟨⟨b, cur, e, h1, h2, h3, h4⟩, hc, hm⟩ := h
  refine ⟨by rw [bvs_len]; omega, fun _ => ⟨b, 0, e, (Array.getElem?_eq_some_iff.1 h3).1, fun j u hj => ?_⟩⟩
  rw [cell_of_row W b (0 + j) cur _ (0, 0) h3, Nat.zero_add]
  rw [← h4, List.getElem?_take] at hj
  split at hj
  · simpa using hj
  · cases hj
theorem NdF.of_own {W : World} {lo : Nat} {A : Option Addr} {c : Nat} {l : List UInt8} {v : Value} (h : W.ownsRow lo 5 1 (.slice A l.length c) l.length (bvs l)) (h0 : 0 < l.length) {lo' : Nat} (hlo : lo' ≤ lo) (hv : ∀ k, v.ownBlock = some k → k < lo) : NdF W lo' v (A, c, l) := by
  rcases h.2 with ⟨_, e⟩ | ⟨g, cap, cur, e, h1, h2, h3, h4, h5, h6⟩
  · omega
  · cases e
    refine ⟨⟨g, cur, rfl, by omega, fun e => by have := hv g e; omega, h2, ?_⟩, h3, h4⟩
    simpa using h6
theorem elemS : Elem Try.prog 23 1 24 := elem_of (z := .slice none 0 0) (by kernel_rfl) (by simp [Value.cells]) (by omega)
def ndT (L : List SlB) : List (List UInt8) := L.map (·.2.2)
structure NdS (W : World) (lo : Nat) (v : Value) (ns : List (List UInt8)) (L : List SlB) : Prop where
  own : W.ownsRow lo 23 1 v ns.length (L.map slv)
  txt : ndT L = ns
  each : ∀ x ∈ L, NdF W lo v x
theorem nds_own {β : Type} (n₀ B : Nat) (F : β → List (List UInt8)) : Own (fun (s : β) W => ∃ v L, Boxed W B 35 v ∧ NdS W n₀ v (F s) L) := by
  rintro s X Y row ⟨v, L, hv, hr⟩ hg hrow
  have hb : ∀ (b : Nat) (o : Obj), X.heap[b]? = some o → o.isCells = true → Y.heap[b]? = some o := fun b o ho hc => (hg.block b (Array.getElem?_eq_some_iff.1 ho).1 (fun e' => by
    obtain ⟨o', ho', hc'⟩ := hrow b e'.symm
    rw [ho] at ho'; cases ho'; rw [hc] at hc'; cases hc')).trans ho
  refine ⟨v, L, hb B _ hv rfl, ⟨hr.own.kept hg ?_, hr.txt, fun x hx => (hr.each x hx).kept (fun b o _ _ ho hc => hb b o ho hc) (fun _ _ h => h)⟩⟩
  rcases hr.own.2 with ⟨rfl, _⟩ | ⟨g, cap, cur, rfl, _, hgb, _⟩
  · exact .inl rfl
  · refine .inr fun e' => ?_
    obtain ⟨o, ho, hc⟩ := hrow g (by simpa [Value.ownBlock] using e'.symm)
    rw [hgb] at ho; cases ho; cases hc
theorem NdF.base {W : World} {lo lo' : Nat} {v : Value} {x : SlB} (h : NdF W lo v x) (hb : lo' ≤ lo) : NdF W lo' v x := by
  obtain ⟨⟨b, cur, e, h1, h2⟩, hc, hm⟩ := h
  exact ⟨⟨b, cur, e, by omega, h2⟩, hc, hm⟩
theorem NdS.base {W : World} {lo lo' : Nat} {v : Value} {ns : List (List UInt8)} {L : List SlB} (h : NdS W lo v ns L) (hb : lo' ≤ lo) : NdS W lo' v ns L :=
  ⟨own_base h.own hb, h.txt, fun x hx => (h.each x hx).base hb⟩
theorem NdS.below {W W' : World} {lo : Nat} {v : Value} {ns : List (List UInt8)} {L : List SlB} (h : NdS W lo v ns L) (hb : Below W.heap.size W W') : NdS W' lo v ns L :=
  ⟨own_below h.own hb, h.txt, fun x hx => (h.each x hx).kept (fun b o _ _ ho _ => bBlk hb (Array.getElem?_eq_some_iff.1 ho).1 ho) (fun _ _ h => h)⟩
theorem NdS.putObj {W : World} {lo l : Nat} {v : Value} {ns : List (List UInt8)} {L : List SlB} {o o' : Obj} (h : NdS W lo v ns L) (hl : W.heap[l]? = some o) (ho : o.isCells = false) : NdS (W.putObj l o') lo v ns L :=
  ⟨ownsRow_putObj h.own _ hl ho, h.txt, fun x hx => (h.each x hx).kept (fun b o2 _ _ ho2 hc => (World.putObj_heap_other (fun e => by
    have e2 : b = l := by omega
    rw [e2, hl] at ho2; cases ho2; rw [ho] at hc; cases hc)).trans ho2) (fun _ _ h => h)⟩
theorem ndS_grown {X Y : World} {lo : Nat} {v : Value} {ns : List (List UInt8)} {L : List SlB} {row : Option Nat} (h : NdS X lo v ns L) (hg : X.grownBy Y row) (hrow : ∀ r, row = some r → ∃ o : Obj, X.heap[r]? = some o ∧ o.isCells = false) : NdS Y lo v ns L := by
  have hb : ∀ (b : Nat) (o : Obj), X.heap[b]? = some o → o.isCells = true → Y.heap[b]? = some o := fun b o ho hc => (hg.block b (Array.getElem?_eq_some_iff.1 ho).1 (fun e' => by
    obtain ⟨o', ho', hc'⟩ := hrow b e'.symm
    rw [ho] at ho'; cases ho'; rw [hc] at hc'; cases hc')).trans ho
  refine ⟨h.own.kept hg ?_, h.txt, fun x hx => (h.each x hx).kept (fun b o _ _ ho hc => hb b o ho hc) (fun _ _ h => h)⟩
  rcases h.own.2 with ⟨rfl, _⟩ | ⟨g, cap, cur, rfl, _, hgb, _⟩
  · exact .inl rfl
  · refine .inr fun e' => ?_
    obtain ⟨o, ho, hc⟩ := hrow g (by simpa [Value.ownBlock] using e'.symm)
    rw [hgb] at ho; cases ho; cases hc
theorem nds_nil (W : World) (lo : Nat) : NdS W lo (.slice none 0 0) [] [] := ⟨World.ownsRow_nil _ _ _ _, rfl, fun x h => by cases h⟩
/-- one more: the row grows by x, made behind it -/
theorem NdS.push {W w3 w1 : World} {lo B : Nat} {v v' : Value} {ns : List (List UInt8)} {L : List SlB} {x : SlB} {tmp : Obj} (h : NdS W lo v ns L) (hlo : lo ≤ W.heap.size) (hb : Below W.heap.size W w3) (hx : NdF w3 W.heap.size v x)
    (hBn : B < lo) (hown : w1.ownsRow lo 23 1 v' (ns.length + 1) (L.map slv ++ [slv x])) (hg : (w3.alloc tmp).grownBy w1 v.ownBlock) (hat : v'.ownBlock = v.ownBlock ∨ v'.ownBlock = some (w3.alloc tmp).heap.size) :
    NdS (w1.setCell ⟨B, 0, none⟩ v') lo v' (ns ++ [x.2.2]) (L ++ [x]) := by
  have hkeep : ∀ y : SlB, NdF w3 lo v y → NdF (w1.setCell ⟨B, 0, none⟩ v') lo v' y := fun y hy => by
    refine hy.kept (fun b o h1 h2 h3 _ => ?_) (fun b h1 h2 h3 => ?_)
    · have hlt := (Array.getElem?_eq_some_iff.1 h3).1
      refine (Below.heap_setCell w1 _ _ b (by show b ≠ B; omega)).trans ?_
      refine (hg.block b (by simp; omega) (fun e => h2 e.symm)).trans ?_
      exact (Below.heap_alloc w3 tmp b hlt).trans h3
    · rcases hat with e | e
      · exact h2 (e ▸ h3)
      · rw [e, World.size_alloc] at h3
        have : w3.heap.size + 1 = b := by simpa using h3
        omega
  refine ⟨?_, by rw [ndT, List.map_append, ← h.txt]; rfl, fun y hy => ?_⟩
  · rw [List.length_append, List.map_append]
    refine hown.kept (grownBy_setCell' w1 B v') (.inr fun e => ?_)
    have := own_ge hown B e
    omega
  · rcases List.mem_append.1 hy with hy | hy
    · exact hkeep y ((h.each y hy).kept (fun b o h1 _ h3 _ => bBlk hb (Array.getElem?_eq_some_iff.1 h3).1 h3) (fun _ _ h => h))
    · have : y = x := by simpa using hy
      subst this
      obtain ⟨⟨b, cur, e, h1, h2⟩, hc, hm⟩ := hx
      exact hkeep y ⟨⟨b, cur, e, by omega, h2⟩, hc, hm⟩

/-! ### parts of a slice of digests -/
def part3 (l : List (List UInt8)) (k : Nat) : List (List UInt8) := (l.drop (k * 3)).take 3
theorem part3_len (l : List (List UInt8)) (k : Nat) : (part3 l k).length = cl l.length 3 k := by
  unfold part3 cl; rw [List.length_take, List.length_drop]
theorem dgs_drop {l : List (List UInt8)} (h : ∀ x ∈ l, x.length = 32) : ∀ k, (dgs l).drop (k * 32) = dgs (l.drop k) := by
  intro k
  induction k generalizing l with
  | zero => simp
  | succ k ih =>
    cases l with
    | nil => simp [dgs]
    | cons x l =>
      have hx : (bvs x).length = 32 := by rw [bvs_len]; exact h x List.mem_cons_self
      rw [Nat.add_mul, Nat.one_mul, Nat.add_comm (k * 32), ← List.drop_drop]
      have e : (dgs (x :: l)).drop 32 = dgs l := by rw [dgs, List.flatMap_cons, ← hx, List.drop_left]; rfl
      rw [e, ih (fun y hy => h y (List.mem_cons_of_mem _ hy))]; rfl
theorem dgs_take {l : List (List UInt8)} (h : ∀ x ∈ l, x.length = 32) : ∀ k, (dgs l).take (k * 32) = dgs (l.take k) := by
  intro k
  induction k generalizing l with
  | zero => simp [dgs]
  | succ k ih =>
    cases l with
    | nil => simp [dgs]
    | cons x l =>
      have hx : (bvs x).length = 32 := by rw [bvs_len]; exact h x List.mem_cons_self
      have e : dgs (x :: l) = bvs x ++ dgs l := rfl
      rw [e, List.take_succ_cons, show dgs (x :: l.take k) = bvs x ++ dgs (l.take k) from rfl, ← ih (fun y hy => h y (List.mem_cons_of_mem _ hy)), Nat.add_mul, Nat.one_mul, List.take_append, hx]
      rw [List.take_of_length_le (by rw [hx]; omega), show k * 32 + 32 - 32 = k * 32 from by omega]
theorem DgAt.part {w : World} {B b o n c : Nat} {l : List (List UInt8)} (h : DgAt w B (some ⟨b, o, none⟩) n c l) (k : Nat) : DgAt w B (some ⟨b, o + k * 3 * 32, none⟩) (cl n 3 k) (cl n 3 k) (part3 l k) := by
  have hp : (dgs l).drop (k * 3 * 32) = dgs (l.drop (k * 3)) := dgs_drop h.wide (k * 3)
  have hw : ∀ x ∈ part3 l k, x.length = 32 := fun x hx => h.wide x (List.mem_of_mem_drop (List.mem_of_mem_take hx))
  have hl : (part3 l k).length = cl n 3 k := by rw [part3_len, h.len]
  have hd : dgs (part3 l k) = ((dgs l).drop (k * 3 * 32)).take (3 * 32) := by
    rw [hp, dgs_take (fun x hx => h.wide x (List.mem_of_mem_drop hx)) 3]; rfl
  refine ⟨hw, hl, ⟨?_, fun h0 => ?_⟩, Nat.le_refl _⟩
  · have : ∀ (m : List (List UInt8)), (∀ x ∈ m, x.length = 32) → (dgs m).length = m.length * 32 := fun m hm => by
      induction m with
      | nil => rfl
      | cons x m ih => rw [show dgs (x :: m) = bvs x ++ dgs m from rfl, List.length_append, ih (fun y hy => hm y (List.mem_cons_of_mem _ hy)), bvs_len, hm x List.mem_cons_self, List.length_cons]; omega
    rw [this _ hw, hl]
  · have hn : 0 < n := by
      rcases Nat.eq_zero_or_pos n with h1 | h1
      · subst h1; unfold cl at h0; omega
      · exact h1
    obtain ⟨b', o', e, hb, hr⟩ := h.sl.at_ hn
    cases e
    refine ⟨b, o + k * 3 * 32, rfl, hb, ?_⟩
    rw [hd]
    exact range_cut hr _ _
theorem parts3_map : ∀ (q : Nat) (l : List (List UInt8)), 0 < l.length → l.length < 3 * q → parts3 q l = (List.range ((l.length + 2) / 3)).map (part3 l)
  | 0, l, _, h => by omega
  | q + 1, l, h0, h => by
    rw [parts3]
    by_cases hl : l.length ≤ 3
    · rw [if_pos hl, show (l.length + 2) / 3 = 1 from by omega]
      simp [part3, List.take_of_length_le hl]
    · rw [if_neg hl, parts3_map q (l.drop 3) (by rw [List.length_drop]; omega) (by rw [List.length_drop]; omega), List.length_drop]
      rw [show (l.length + 2) / 3 = (l.length - 3 + 2) / 3 + 1 from by omega, List.range_succ_eq_map, List.map_cons, List.map_map]
      congr 1
      apply List.map_congr_left
      intro k _
      simp only [Function.comp, part3, List.drop_drop, Nat.succ_eq_add_one, Nat.add_mul, Nat.one_mul, Nat.add_comm]
theorem nodesT_map (lv : Nat) {l : List (List UInt8)} (h : 0 < l.length) : nodesT lv l = (List.range ((l.length + 2) / 3)).map fun k => nodeB lv (part3 l k) := by
  unfold nodesT
  rw [parts3_map _ _ h (by omega), List.map_map]; rfl
theorem nodesT_nil (lv : Nat) : nodesT lv [] = [nodeB lv []] := rfl
def ndP (lv : Nat) (l : List (List UInt8)) {m : Nat} (pre : List (Fin m)) : List (List UInt8) := pre.map fun k => nodeB lv (part3 l k.1)
theorem ndP_snoc (lv : Nat) (l : List (List UInt8)) {m : Nat} (pre : List (Fin m)) (x : Fin m) : ndP lv l (pre ++ [x]) = ndP lv l pre ++ [nodeB lv (part3 l x.1)] := by simp [ndP]
theorem ndP_all (lv : Nat) {l : List (List UInt8)} (h : 0 < l.length) {m : Nat} (hm : m = (l.length + 2) / 3) : ndP lv l (List.finRange m) = nodesT lv l := by
  rw [nodesT_map lv h, ← hm]
  unfold ndP
  apply List.ext_getElem?
  intro i
  rw [List.getElem?_map, List.getElem?_map]
  rcases Nat.lt_or_ge i m with h | h
  · rw [List.getElem?_eq_getElem (by simpa using h), List.getElem?_eq_getElem (by simpa using h)]
    simp [List.getElem_finRange, List.getElem_range]
  · rw [List.getElem?_eq_none (by simpa using h), List.getElem?_eq_none (by simpa using h)]
    rfl
theorem ndP_len (lv : Nat) (l : List (List UInt8)) {m : Nat} (pre : List (Fin m)) : (ndP lv l pre).length = pre.length := by simp [ndP]

def NdsP (w : World) (ns : List (List UInt8)) (e : Ending) (w' : World) : Prop :=
  ∃ v L, e = .returned v ∧ NdS w' w.heap.size v ns L ∧ Below w.heap.size w w'
end Go.Proofs.Ytcnbonmpocddmaa
