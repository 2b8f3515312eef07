/- Lines and pieces in memory; lines as arguments. -/
import Derived.Test.YtiffcdeagckgmaaDoorRow
import Derived.Test.YtiffcdeagckgmaaDoorHeld
import Derived.Test.YtiffcdeagckgmaaDoorMany
import Derived.Test.YtiffcdeagckgmaaDoorAuto
import Derived.Test.YtiffcdeagckgmaaDoorChecked
import Derived.BigQuiet
import Derived.Deep.CutRange
namespace Go.Proofs.YtiffcdeagckgmaaDoor
set_option linter.unusedSimpArgs false
set_option linter.unusedVariables false
open Go.RowKit Go.ChangeShapes Go.WideShapes Go.Sort Go.Deep

/-- a line, as far as pages look at it -/
structure LN where
  kind : Int
  first : Bool
  last : Bool
  over : Bool
  pv : Value
def LN.cells (x : LN) : List Value := [.int .i64 x.kind, .bool x.first, .bool x.last, .bool x.over, x.pv]
def lns (l : List LN) : List Value := l.flatMap LN.cells
theorem LN.len (x : LN) : x.cells.length = 5 := rfl
theorem lns_len (l : List LN) : (lns l).length = l.length * 5 := by
  unfold lns
  induction l with
  | nil => rfl
  | cons x l ih => rw [List.flatMap_cons, List.length_append, ih, LN.len, List.length_cons]; omega
theorem lns_part {l : List LN} {k : Nat} {x : LN} (hx : l[k]? = some x) : ((lns l).drop (k * 5)).take 5 = x.cells := by
  induction l generalizing k with
  | nil => simp at hx
  | cons y l ih =>
    match k with
    | 0 =>
      simp at hx; subst hx
      simp [lns, List.flatMap_cons, LN.cells]
    | k + 1 =>
      have := ih (k := k) (by simpa using hx)
      rw [lns, List.flatMap_cons, Nat.add_mul, Nat.one_mul, Nat.add_comm (k * 5), ← List.drop_drop]
      have e : (y.cells ++ List.flatMap LN.cells l).drop 5 = lns l := by
        rw [show (5 : Nat) = y.cells.length from rfl, List.drop_left]; rfl
      rw [e]; exact this
/-- a line's last cell is no struct -/
def LN.One (x : LN) : Prop := x.pv.oneCell' = true
/-! ### lines in memory -/
structure LnAt (w : World) (B : Nat) (A : Option Addr) (n c : Nat) (l : List LN) : Prop where
  len : l.length = n
  sl : Sl w B 5 A n (lns l)
  cap : n ≤ c
  wide : ∀ x ∈ l, -9223372036854775808 ≤ x.kind ∧ x.kind ≤ 9223372036854775807
theorem LnAt.below {w w' : World} {B : Nat} {A : Option Addr} {n c : Nat} {l : List LN} (h : LnAt w B A n c l) (hb : Below B w w') : LnAt w' B A n c l := ⟨h.len, h.sl.below hb, h.cap, h.wide⟩
theorem LnAt.nxt {w w' : World} {A : Option Addr} {n c : Nat} {l : List LN} (h : LnAt w w.heap.size A n c l) (hb : Below w.heap.size w w') : LnAt w' w'.heap.size A n c l := ⟨h.len, h.sl.next hb, h.cap, h.wide⟩
theorem LnAt.entry {w : World} {B : Nat} {A : Option Addr} {n c : Nat} {l : List LN} (h : LnAt w B A n c l) {k : Nat} {x : LN} (hx : l[k]? = some x) : ∃ b o, A = some ⟨b, o, none⟩ ∧ b < B ∧ w.rangeAt b (o + k * 5) x.cells := by
  obtain ⟨hk, -⟩ := List.getElem?_eq_some_iff.1 hx
  obtain ⟨b, o, e, hb, hr, hc⟩ := h.sl.elem (k := k) (by rw [← h.len]; exact hk)
  rw [lns_part hx] at hc
  exact ⟨b, o, e, hb, hc⟩
theorem ln_cells {w : World} {b o : Nat} {x : LN} (h : w.rangeAt b o x.cells) : w.cell? ⟨b, o, none⟩ = some (.int .i64 x.kind) ∧ w.cell? ⟨b, o + 1, none⟩ = some (.bool x.first) ∧ w.cell? ⟨b, o + 2, none⟩ = some (.bool x.last) ∧ w.cell? ⟨b, o + 3, none⟩ = some (.bool x.over) ∧ w.cell? ⟨b, o + 4, none⟩ = some x.pv :=
  ⟨h 0 _ rfl, h 1 _ rfl, h 2 _ rfl, h 3 _ rfl, h 4 _ rfl⟩
theorem ln_size : (Tryd.prog.info? 45).map (·.size) = some 5 := by kernel_rfl
theorem lnZ : ZeroIs Tryd.prog 45 #[.int .i64 0, .bool false, .bool false, .bool false, .slice none 0 0] := by unfold ZeroIs; kernel_rfl
theorem ln_info (x : LN) : (Tryd.prog.info? 45).map (·.size) = some x.cells.toArray.size := ln_size
theorem ln_linfo (x : LN) : (Tryd.prog.info? 45).map (·.size) = some x.cells.length := ln_size
theorem one_ln {x : LN} (h : x.One) : x.cells.toArray.all (·.oneCell') = true := by
  refine all_oneCell_toArray (fun u hu => ?_)
  simp only [LN.cells, List.mem_cons, List.mem_nil_iff, or_false] at hu
  rcases hu with rfl | rfl | rfl | rfl | rfl
  · rfl
  · rfl
  · rfl
  · rfl
  · exact h
theorem ret2 {w w' : World} {a b : Value} {e : Ending} (h : e = .returned (.tuple #[a, b])) (hb : Below w.heap.size w w') : Ret w (.tuple #[a, b]) e w' := ⟨h, hb⟩
structure PC where
  x : Int
  s : ByteArray
def PC.cells (p : PC) : List Value := [.int .i64 p.x, .string p.s]
def pcs (l : List PC) : List Value := l.flatMap PC.cells
theorem pcs_len (l : List PC) : (pcs l).length = l.length * 2 := by
  unfold pcs
  induction l with
  | nil => rfl
  | cons x l ih => rw [List.flatMap_cons, List.length_append, ih]; simp [PC.cells]; omega
theorem pcs_part {l : List PC} {k : Nat} {x : PC} (hx : l[k]? = some x) : ((pcs l).drop (k * 2)).take 2 = x.cells := flatMap_part PC.cells 2 (fun _ => rfl) l k x hx
theorem pcs_append (a b : List PC) : pcs (a ++ b) = pcs a ++ pcs b := by simp [pcs]
theorem one_pcs (l : List PC) : ∀ u ∈ pcs l, u.oneCell' = true := by
  intro u hu
  obtain ⟨x, -, hu⟩ := List.mem_flatMap.1 hu
  simp only [PC.cells, List.mem_cons, List.mem_nil_iff, or_false] at hu
  rcases hu with rfl | rfl <;> rfl
structure PcAt (w : World) (B : Nat) (A : Option Addr) (n c : Nat) (l : List PC) : Prop where
  wide : ∀ x ∈ l, -9223372036854775808 ≤ x.x ∧ x.x ≤ 9223372036854775807
  len : l.length = n
  sl : Sl w B 2 A n (pcs l)
  cap : n ≤ c
  most : c ≤ maxLen
theorem PcAt.below {w w' : World} {B : Nat} {A : Option Addr} {n c : Nat} {l : List PC} (h : PcAt w B A n c l) (hb : Below B w w') : PcAt w' B A n c l := ⟨h.wide, h.len, h.sl.below hb, h.cap, h.most⟩
theorem PcAt.nxt {w w' : World} {A : Option Addr} {n c : Nat} {l : List PC} (h : PcAt w w.heap.size A n c l) (hb : Below w.heap.size w w') : PcAt w' w'.heap.size A n c l := ⟨h.wide, h.len, h.sl.next hb, h.cap, h.most⟩
theorem PcAt.mono {w : World} {B B' : Nat} {A : Option Addr} {n c : Nat} {l : List PC} (h : PcAt w B A n c l) (hB : B ≤ B') : PcAt w B' A n c l := ⟨h.wide, h.len, h.sl.mono hB, h.cap, h.most⟩
theorem PcAt.entry {w : World} {B : Nat} {A : Option Addr} {n c : Nat} {l : List PC} (h : PcAt w B A n c l) {k : Nat} {x : PC} (hx : l[k]? = some x) : ∃ b o, A = some ⟨b, o, none⟩ ∧ b < B ∧ w.rangeAt b (o + k * 2) x.cells := by
  obtain ⟨hk, -⟩ := List.getElem?_eq_some_iff.1 hx
  obtain ⟨b, o, e, hb, hr, hc⟩ := h.sl.elem (k := k) (by rw [← h.len]; exact hk)
  rw [pcs_part hx] at hc
  exact ⟨b, o, e, hb, hc⟩
theorem pc_size : (Tryd.prog.info? 47).map (·.size) = some 2 := by kernel_rfl
/-- lines with their pieces -/
def lnsOf (l : List (LN × List PC)) : List LN := l.map (·.1)
structure RnAt (w : World) (B : Nat) (A : Option Addr) (n c : Nat) (l : List (LN × List PC)) : Prop where
  ln : LnAt w B A n c (lnsOf l)
  pc : ∀ r ∈ l, ∃ A' n' c', r.1.pv = .slice A' n' c' ∧ PcAt w B A' n' c' r.2
theorem RnAt.below {w w' : World} {B : Nat} {A : Option Addr} {n c : Nat} {l : List (LN × List PC)} (h : RnAt w B A n c l) (hb : Below B w w') : RnAt w' B A n c l :=
  ⟨h.ln.below hb, fun r hr => by obtain ⟨A', n', c', h1, h2⟩ := h.pc r hr; exact ⟨A', n', c', h1, h2.below hb⟩⟩
theorem RnAt.nxt {w w' : World} {A : Option Addr} {n c : Nat} {l : List (LN × List PC)} (h : RnAt w w.heap.size A n c l) (hb : Below w.heap.size w w') : RnAt w' w'.heap.size A n c l :=
  ⟨h.ln.nxt hb, fun r hr => by obtain ⟨A', n', c', h1, h2⟩ := h.pc r hr; exact ⟨A', n', c', h1, h2.nxt hb⟩⟩
theorem RnAt.len {w : World} {B : Nat} {A : Option Addr} {n c : Nat} {l : List (LN × List PC)} (h : RnAt w B A n c l) : l.length = n := by
  have := h.ln.len
  unfold lnsOf at this
  rwa [List.length_map] at this
theorem RnAt.one {w : World} {B : Nat} {A : Option Addr} {n c : Nat} {l : List (LN × List PC)} (h : RnAt w B A n c l) : ∀ x ∈ lnsOf l, x.One := by
  intro x hx
  obtain ⟨r, hr, rfl⟩ := List.mem_map.1 hx
  obtain ⟨A', n', c', h1, -⟩ := h.pc r hr
  unfold LN.One
  rw [h1]
  rfl
theorem RnAt.entry {w : World} {B : Nat} {A : Option Addr} {n c : Nat} {l : List (LN × List PC)} (h : RnAt w B A n c l) {k : Nat} {r : LN × List PC} (hx : l[k]? = some r) :
    ∃ b o A' n' c', A = some ⟨b, o, none⟩ ∧ b < B ∧ w.rangeAt b (o + k * 5) r.1.cells ∧ r.1.pv = .slice A' n' c' ∧ PcAt w B A' n' c' r.2 := by
  obtain ⟨b, o, e, hb, hr⟩ := h.ln.entry (k := k) (x := r.1) (by unfold lnsOf; rw [List.getElem?_map, hx]; rfl)
  obtain ⟨A', n', c', h1, h2⟩ := h.pc r (List.mem_of_getElem? hx)
  exact ⟨b, o, A', n', c', e, hb, hr, h1, h2⟩

section
variable {H : Type} {enc : TypeId × Value → H} {w : World}
set_option maxRecDepth 100000 in
theorem dec_pc (fuel : Nat) (cs : List Value) (x : DataW H × List MemPlace) (h : DataW.trod enc Tryd.prog w 0 (fun _ => true) true fuel 47 cs = some x) : ∃ r : PC, cs = r.cells ∧ -9223372036854775808 ≤ r.x ∧ r.x ≤ 9223372036854775807 := by
  have hC : Tryd.prog.cellsOf 47 = 2 := by kernel_rfl
  obtain ⟨fs, ht, hf⟩ : ∃ fs, Tryd.prog.underlying 47 = some (.struct fs) ∧ (∃ f, fs[0]? = some f ∧ f.offset = 0 ∧ f.type = 3) ∧ (∃ f, fs[1]? = some f ∧ f.offset = 1 ∧ f.type = 9) :=
    ⟨_, Tryd.underlying47, ⟨_, rfl, rfl, rfl⟩, ⟨_, rfl, rfl, rfl⟩⟩
  obtain ⟨⟨f0, a0, b0, t0⟩, ⟨f1, a1, b1, t1⟩⟩ := hf
  obtain ⟨xs, m, _, _, hlen, hxl, hx⟩ := DataW.trod_struct ht h
  have c1 : Tryd.prog.cellsOf 3 = 1 := by kernel_rfl
  have c2 : Tryd.prog.cellsOf 9 = 1 := by kernel_rfl
  have h0 := hx 0 f0 a0
  have h1 := hx 1 f1 a1
  rw [b0, t0, c1, List.getElem?_eq_getElem (by rw [hxl]; exact (Array.getElem?_eq_some_iff.1 a0).1)] at h0
  rw [b1, t1, c2, List.getElem?_eq_getElem (by rw [hxl]; exact (Array.getElem?_eq_some_iff.1 a1).1)] at h1
  obtain ⟨z0, e0, w0⟩ := dec_int Tryd.underlying3 _ _ _ h0
  obtain ⟨s1, e1, -, -⟩ := DataW.trod_string Tryd.underlying9 h1
  rw [hC] at hlen
  have hz := wf64 w0
  refine ⟨⟨z0, s1⟩, ?_, hz⟩
  match cs, hlen with
  | [x0, x1], _ =>
    simp only [List.drop_zero, List.drop_succ_cons, List.take_succ_cons, List.take_zero, List.cons.injEq, and_true] at e0 e1
    subst e0 e1
    rfl
theorem open_slPC {fuel : Nat} {cs0 : List Value} {x0 : DataW H × List MemPlace} (h : DataW.trod enc Tryd.prog w 0 (fun _ => true) true fuel 43 cs0 = some x0) :
    ∃ A n c, ∃ l : List PC, cs0 = [.slice A n c] ∧ PcAt w w.heap.size A n c l := by
  obtain ⟨A, n, c, l, h1, h2, h3, h4, h5, h6, h7⟩ := open_sl (encA := PC.cells) (ok := fun r => -9223372036854775808 ≤ r.x ∧ r.x ≤ 9223372036854775807) (sz := 2) Tryd.underlying43 (by kernel_rfl) (by omega) (fun x => rfl)
    (fun fuel cs x h => dec_pc fuel cs x h) h
  exact ⟨A, n, c, l, h1, ⟨h7, h2, h6, h3, h4⟩⟩
set_option maxRecDepth 100000 in
theorem dec_ln (fuel : Nat) (cs : List Value) (x : DataW H × List MemPlace) (h : DataW.trod enc Tryd.prog w 0 (fun _ => true) true fuel 45 cs = some x) :
    ∃ r : LN × List PC, cs = r.1.cells ∧ (-9223372036854775808 ≤ r.1.kind ∧ r.1.kind ≤ 9223372036854775807) ∧ ∃ A' n' c', r.1.pv = .slice A' n' c' ∧ PcAt w w.heap.size A' n' c' r.2 := by
  have hC : Tryd.prog.cellsOf 45 = 5 := by kernel_rfl
  obtain ⟨fs, ht, hf⟩ : ∃ fs, Tryd.prog.underlying 45 = some (.struct fs) ∧ (∃ f, fs[0]? = some f ∧ f.offset = 0 ∧ f.type = 3) ∧ (∃ f, fs[1]? = some f ∧ f.offset = 1 ∧ f.type = 4) ∧ (∃ f, fs[2]? = some f ∧ f.offset = 2 ∧ f.type = 4) ∧ (∃ f, fs[3]? = some f ∧ f.offset = 3 ∧ f.type = 4) ∧ (∃ f, fs[4]? = some f ∧ f.offset = 4 ∧ f.type = 43) :=
    ⟨_, Tryd.underlying45, ⟨_, rfl, rfl, rfl⟩, ⟨_, rfl, rfl, rfl⟩, ⟨_, rfl, rfl, rfl⟩, ⟨_, rfl, rfl, rfl⟩, ⟨_, rfl, rfl, rfl⟩⟩
  obtain ⟨⟨f0, a0, b0, t0⟩, ⟨f1, a1, b1, t1⟩, ⟨f2, a2, b2, t2⟩, ⟨f3, a3, b3, t3⟩, ⟨f4, a4, b4, t4⟩⟩ := hf
  obtain ⟨xs, m, _, _, hlen, hxl, hx⟩ := DataW.trod_struct ht h
  have c0 : Tryd.prog.cellsOf 3 = 1 := by kernel_rfl
  have c1 : Tryd.prog.cellsOf 4 = 1 := by kernel_rfl
  have c4 : Tryd.prog.cellsOf 43 = 1 := by kernel_rfl
  have h0 := hx 0 f0 a0
  have h1 := hx 1 f1 a1
  have h2 := hx 2 f2 a2
  have h3 := hx 3 f3 a3
  have h4 := hx 4 f4 a4
  rw [b0, t0, c0, List.getElem?_eq_getElem (by rw [hxl]; exact (Array.getElem?_eq_some_iff.1 a0).1)] at h0
  rw [b1, t1, c1, List.getElem?_eq_getElem (by rw [hxl]; exact (Array.getElem?_eq_some_iff.1 a1).1)] at h1
  rw [b2, t2, c1, List.getElem?_eq_getElem (by rw [hxl]; exact (Array.getElem?_eq_some_iff.1 a2).1)] at h2
  rw [b3, t3, c1, List.getElem?_eq_getElem (by rw [hxl]; exact (Array.getElem?_eq_some_iff.1 a3).1)] at h3
  rw [b4, t4, c4, List.getElem?_eq_getElem (by rw [hxl]; exact (Array.getElem?_eq_some_iff.1 a4).1)] at h4
  obtain ⟨z0, e0, w0⟩ := dec_int Tryd.underlying3 _ _ _ h0
  obtain ⟨z1, e1, -⟩ := DataW.trod_bool Tryd.underlying4 h1
  obtain ⟨z2, e2, -⟩ := DataW.trod_bool Tryd.underlying4 h2
  obtain ⟨z3, e3, -⟩ := DataW.trod_bool Tryd.underlying4 h3
  obtain ⟨A', n', c', l', e4, hp⟩ := open_slPC h4
  rw [hC] at hlen
  refine ⟨(⟨z0, z1, z2, z3, .slice A' n' c'⟩, l'), ?_, wf64 w0, A', n', c', rfl, hp⟩
  match cs, hlen with
  | [x0, x1, x2, x3, x4], _ =>
    simp only [List.drop_zero, List.drop_succ_cons, List.take_succ_cons, List.take_zero, List.cons.injEq, and_true] at e0 e1 e2 e3 e4
    subst e0 e1 e2 e3 e4
    rfl
end
set_option maxRecDepth 100000 in
theorem open_lines {H : Type} {enc : TypeId × Value → H} {W : World} {base : Nat} {v : Value} {d : DataW H} {p : List MemPlace}
    (hv : Value.okWide Tryd.prog W .any base 22 v) (h : DataW.Trod enc Tryd.prog W 0 (fun _ => true) true 22 v d p) : ∃ A n c l, v = .slice A n c ∧ RnAt W W.heap.size A n c l ∧ c ≤ maxLen := by
  obtain ⟨A, n, c, l, h1, h2, h3, h4, h5, h6, h7⟩ := open_slA (encA := fun x : LN × List PC => x.1.cells)
    (ok := fun r => (-9223372036854775808 ≤ r.1.kind ∧ r.1.kind ≤ 9223372036854775807) ∧ ∃ A' n' c', r.1.pv = .slice A' n' c' ∧ PcAt W W.heap.size A' n' c' r.2) (sz := 5) Tryd.underlying22 (by kernel_rfl) (by omega) (fun x => rfl)
    (fun fuel cs x h => dec_ln fuel cs x h) hv h
  refine ⟨A, n, c, l, h1, ⟨⟨by unfold lnsOf; rw [List.length_map, h2], ?_, h3, fun x hx => ?_⟩, fun r hr => (h7 r hr).2⟩, h4⟩
  · unfold lns lnsOf; rw [List.flatMap_map]; exact h6
  · obtain ⟨r, hr, rfl⟩ := List.mem_map.1 hx; exact (h7 r hr).1
end Go.Proofs.YtiffcdeagckgmaaDoor
