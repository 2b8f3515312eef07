/- Pieces in memory; lines with their pieces; lines as arguments. -/
import Derived.Test.YtdnpcplboohdpaaPgKeep
import Derived.Test.YtdnpcplboohdpaaPgCost
namespace Go.Proofs.Ytdnpcplboohdpaa
set_option linter.unusedSimpArgs false
set_option linter.unusedVariables false
open Go.RowKit Go.ChangeShapes Go.WideShapes Go.Sort Go.Deep

structure PC where
  x : Int
  s : ByteArray
def PC.cells (p : PC) : List Value := [.int .i64 p.x, .string p.s]
def pcs (l : List PC) : List Value := l.flatMap PC.cells
theorem pcs_len (l : List PC) : (pcs l).length = l.length * 2 := by
  unfold pcs
  induction l with
  | nil => rfl
  | cons x l ih => rw [List.flatMap_cons, List.length_append, ih]; simp [PC.cells]; omega
theorem pcs_part {l : List PC} {k : Nat} {x : PC} (hx : l[k]? = some x) : ((pcs l).drop (k * 2)).take 2 = x.cells := flatMap_part PC.cells 2 (fun _ => rfl) l k x hx
theorem pcs_append (a b : List PC) : pcs (a ++ b) = pcs a ++ pcs b := by simp [pcs]
theorem one_pcs (l : List PC) : ∀ u ∈ pcs l, u.oneCell' = true := by
  intro u hu
  obtain ⟨x, -, hu⟩ := List.mem_flatMap.1 hu
  simp only [PC.cells, List.mem_cons, List.mem_nil_iff, or_false] at hu
  rcases hu with rfl | rfl <;> rfl
structure PcAt (w : World) (B : Nat) (A : Option Addr) (n c : Nat) (l : List PC) : Prop where
  wide : ∀ x ∈ l, -9223372036854775808 ≤ x.x ∧ x.x ≤ 9223372036854775807
  len : l.length = n
  sl : Sl w B 2 A n (pcs l)
  cap : n ≤ c
  most : c ≤ maxLen
theorem PcAt.below {w w' : World} {B : Nat} {A : Option Addr} {n c : Nat} {l : List PC} (h : PcAt w B A n c l) (hb : Below B w w') : PcAt w' B A n c l := ⟨h.wide, h.len, h.sl.below hb, h.cap, h.most⟩
theorem PcAt.nxt {w w' : World} {A : Option Addr} {n c : Nat} {l : List PC} (h : PcAt w w.heap.size A n c l) (hb : Below w.heap.size w w') : PcAt w' w'.heap.size A n c l := ⟨h.wide, h.len, h.sl.next hb, h.cap, h.most⟩
theorem PcAt.mono {w : World} {B B' : Nat} {A : Option Addr} {n c : Nat} {l : List PC} (h : PcAt w B A n c l) (hB : B ≤ B') : PcAt w B' A n c l := ⟨h.wide, h.len, h.sl.mono hB, h.cap, h.most⟩
theorem PcAt.entry {w : World} {B : Nat} {A : Option Addr} {n c : Nat} {l : List PC} (h : PcAt w B A n c l) {k : Nat} {x : PC} (hx : l[k]? = some x) : ∃ b o, A = some ⟨b, o, none⟩ ∧ b < B ∧ w.rangeAt b (o + k * 2) x.cells := by
  obtain ⟨hk, -⟩ := List.getElem?_eq_some_iff.1 hx
  obtain ⟨b, o, e, hb, hr, hc⟩ := h.sl.elem (k := k) (by rw [← h.len]; exact hk)
  rw [pcs_part hx] at hc
  exact ⟨b, o, e, hb, hc⟩
theorem pc_size : (Try.prog.info? 49).map (·.size) = some 2 := by kernel_rfl
/-- lines with their pieces -/
def lnsOf (l : List (LN × List PC)) : List LN := l.map (·.1)
structure RnAt (w : World) (B : Nat) (A : Option Addr) (n c : Nat) (l : List (LN × List PC)) : Prop where
  ln : LnAt w B A n c (lnsOf l)
  pc : ∀ r ∈ l, ∃ A' n' c', r.1.pv = .slice A' n' c' ∧ PcAt w B A' n' c' r.2
theorem RnAt.below {w w' : World} {B : Nat} {A : Option Addr} {n c : Nat} {l : List (LN × List PC)} (h : RnAt w B A n c l) (hb : Below B w w') : RnAt w' B A n c l :=
  ⟨h.ln.below hb, fun r hr => by obtain ⟨A', n', c', h1, h2⟩ := h.pc r hr; exact ⟨A', n', c', h1, h2.below hb⟩⟩
theorem RnAt.nxt {w w' : World} {A : Option Addr} {n c : Nat} {l : List (LN × List PC)} (h : RnAt w w.heap.size A n c l) (hb : Below w.heap.size w w') : RnAt w' w'.heap.size A n c l :=
  ⟨h.ln.nxt hb, fun r hr => by obtain ⟨A', n', c', h1, h2⟩ := h.pc r hr; exact ⟨A', n', c', h1, h2.nxt hb⟩⟩
theorem RnAt.len {w : World} {B : Nat} {A : Option Addr} {n c : Nat} {l : List (LN × List PC)} (h : RnAt w B A n c l) : l.length = n := by
  have := h.ln.len
  unfold lnsOf at this
  rwa [List.length_map] at this
theorem RnAt.one {w : World} {B : Nat} {A : Option Addr} {n c : Nat} {l : List (LN × List PC)} (h : RnAt w B A n c l) : ∀ x ∈ lnsOf l, x.One := by
  intro x hx
  obtain ⟨r, hr, rfl⟩ := List.mem_map.1 hx
  obtain ⟨A', n', c', h1, -⟩ := h.pc r hr
  unfold LN.One
  rw [h1]
  rfl
theorem RnAt.entry {w : World} {B : Nat} {A : Option Addr} {n c : Nat} {l : List (LN × List PC)} (h : RnAt w B A n c l) {k : Nat} {r : LN × List PC} (hx : l[k]? = some r) :
    ∃ b o A' n' c', A = some ⟨b, o, none⟩ ∧ b < B ∧ w.rangeAt b (o + k * 5) r.1.cells ∧ r.1.pv = .slice A' n' c' ∧ PcAt w B A' n' c' r.2 := by
  obtain ⟨b, o, e, hb, hr⟩ := h.ln.entry (k := k) (x := r.1) (by unfold lnsOf; rw [List.getElem?_map, hx]; rfl)
  obtain ⟨A', n', c', h1, h2⟩ := h.pc r (List.mem_of_getElem? hx)
  exact ⟨b, o, A', n', c', e, hb, hr, h1, h2⟩

section
variable {H : Type} {enc : TypeId × Value → H} {w : World}
set_option maxRecDepth 100000 in
theorem dec_pc (fuel : Nat) (cs : List Value) (x : DataW H × List MemPlace) (h : DataW.trod enc Try.prog w 0 (fun _ => true) true fuel 49 cs = some x) : ∃ r : PC, cs = r.cells ∧ -9223372036854775808 ≤ r.x ∧ r.x ≤ 9223372036854775807 := by
  have hC : Try.prog.cellsOf 49 = 2 := by kernel_rfl
  obtain ⟨fs, ht, hf⟩ : ∃ fs, Try.prog.underlying 49 = some (.struct fs) ∧ (∃ f, fs[0]? = some f ∧ f.offset = 0 ∧ f.type = 3) ∧ (∃ f, fs[1]? = some f ∧ f.offset = 1 ∧ f.type = 9) :=
    ⟨_, Try.underlying49, ⟨_, rfl, rfl, rfl⟩, ⟨_, rfl, rfl, rfl⟩⟩
  obtain ⟨⟨f0, a0, b0, t0⟩, ⟨f1, a1, b1, t1⟩⟩ := hf
  obtain ⟨xs, m, _, _, hlen, hxl, hx⟩ := DataW.trod_struct ht h
  have c1 : Try.prog.cellsOf 3 = 1 := by kernel_rfl
  have c2 : Try.prog.cellsOf 9 = 1 := by kernel_rfl
  have h0 := hx 0 f0 a0
  have h1 := hx 1 f1 a1
  rw [b0, t0, c1, List.getElem?_eq_getElem (by rw [hxl]; exact (Array.getElem?_eq_some_iff.1 a0).1)] at h0
  rw [b1, t1, c2, List.getElem?_eq_getElem (by rw [hxl]; exact (Array.getElem?_eq_some_iff.1 a1).1)] at h1
  obtain ⟨z0, e0, w0⟩ := dec_int Try.underlying3 _ _ _ h0
  obtain ⟨s1, e1, -, -⟩ := DataW.trod_string Try.underlying9 h1
  rw [hC] at hlen
  have hz := wf64 w0
  refine ⟨⟨z0, s1⟩, ?_, hz⟩
  match cs, hlen with
  | [x0, x1], _ =>
    simp only [List.drop_zero, List.drop_succ_cons, List.take_succ_cons, List.take_zero, List.cons.injEq, and_true] at e0 e1
    subst e0 e1
    rfl
theorem open_slPC {fuel : Nat} {cs0 : List Value} {x0 : DataW H × List MemPlace} (h : DataW.trod enc Try.prog w 0 (fun _ => true) true fuel 43 cs0 = some x0) :
    ∃ A n c, ∃ l : List PC, cs0 = [.slice A n c] ∧ PcAt w w.heap.size A n c l := by
  obtain ⟨A, n, c, l, h1, h2, h3, h4, h5, h6, h7⟩ := open_sl (encA := PC.cells) (ok := fun r => -9223372036854775808 ≤ r.x ∧ r.x ≤ 9223372036854775807) (sz := 2) Try.underlying43 (by kernel_rfl) (by omega) (fun x => rfl)
    (fun fuel cs x h => dec_pc fuel cs x h) h
  exact ⟨A, n, c, l, h1, ⟨h7, h2, h6, h3, h4⟩⟩
set_option maxRecDepth 100000 in
theorem dec_ln (fuel : Nat) (cs : List Value) (x : DataW H × List MemPlace) (h : DataW.trod enc Try.prog w 0 (fun _ => true) true fuel 45 cs = some x) :
    ∃ r : LN × List PC, cs = r.1.cells ∧ (-9223372036854775808 ≤ r.1.kind ∧ r.1.kind ≤ 9223372036854775807) ∧ ∃ A' n' c', r.1.pv = .slice A' n' c' ∧ PcAt w w.heap.size A' n' c' r.2 := by
  have hC : Try.prog.cellsOf 45 = 5 := by kernel_rfl
  obtain ⟨fs, ht, hf⟩ : ∃ fs, Try.prog.underlying 45 = some (.struct fs) ∧ (∃ f, fs[0]? = some f ∧ f.offset = 0 ∧ f.type = 3) ∧ (∃ f, fs[1]? = some f ∧ f.offset = 1 ∧ f.type = 4) ∧ (∃ f, fs[2]? = some f ∧ f.offset = 2 ∧ f.type = 4) ∧ (∃ f, fs[3]? = some f ∧ f.offset = 3 ∧ f.type = 4) ∧ (∃ f, fs[4]? = some f ∧ f.offset = 4 ∧ f.type = 43) :=
    ⟨_, Try.underlying45, ⟨_, rfl, rfl, rfl⟩, ⟨_, rfl, rfl, rfl⟩, ⟨_, rfl, rfl, rfl⟩, ⟨_, rfl, rfl, rfl⟩, ⟨_, rfl, rfl, rfl⟩⟩
  obtain ⟨⟨f0, a0, b0, t0⟩, ⟨f1, a1, b1, t1⟩, ⟨f2, a2, b2, t2⟩, ⟨f3, a3, b3, t3⟩, ⟨f4, a4, b4, t4⟩⟩ := hf
  obtain ⟨xs, m, _, _, hlen, hxl, hx⟩ := DataW.trod_struct ht h
  have c0 : Try.prog.cellsOf 3 = 1 := by kernel_rfl
  have c1 : Try.prog.cellsOf 4 = 1 := by kernel_rfl
  have c4 : Try.prog.cellsOf 43 = 1 := by kernel_rfl
  have h0 := hx 0 f0 a0
  have h1 := hx 1 f1 a1
  have h2 := hx 2 f2 a2
  have h3 := hx 3 f3 a3
  have h4 := hx 4 f4 a4
  rw [b0, t0, c0, List.getElem?_eq_getElem (by rw [hxl]; exact (Array.getElem?_eq_some_iff.1 a0).1)] at h0
  rw [b1, t1, c1, List.getElem?_eq_getElem (by rw [hxl]; exact (Array.getElem?_eq_some_iff.1 a1).1)] at h1
  rw [b2, t2, c1, List.getElem?_eq_getElem (by rw [hxl]; exact (Array.getElem?_eq_some_iff.1 a2).1)] at h2
  rw [b3, t3, c1, List.getElem?_eq_getElem (by rw [hxl]; exact (Array.getElem?_eq_some_iff.1 a3).1)] at h3
  rw [b4, t4, c4, List.getElem?_eq_getElem (by rw [hxl]; exact (Array.getElem?_eq_some_iff.1 a4).1)] at h4
  obtain ⟨z0, e0, w0⟩ := dec_int Try.underlying3 _ _ _ h0
  obtain ⟨z1, e1, -⟩ := DataW.trod_bool Try.underlying4 h1
  obtain ⟨z2, e2, -⟩ := DataW.trod_bool Try.underlying4 h2
  obtain ⟨z3, e3, -⟩ := DataW.trod_bool Try.underlying4 h3
  obtain ⟨A', n', c', l', e4, hp⟩ := open_slPC h4
  rw [hC] at hlen
  refine ⟨(⟨z0, z1, z2, z3, .slice A' n' c'⟩, l'), ?_, wf64 w0, A', n', c', rfl, hp⟩
  match cs, hlen with
  | [x0, x1, x2, x3, x4], _ =>
    simp only [List.drop_zero, List.drop_succ_cons, List.take_succ_cons, List.take_zero, List.cons.injEq, and_true] at e0 e1 e2 e3 e4
    subst e0 e1 e2 e3 e4
    rfl
end
set_option maxRecDepth 100000 in
theorem open_lines {H : Type} {enc : TypeId × Value → H} {W : World} {base : Nat} {v : Value} {d : DataW H} {p : List MemPlace}
    (hv : Value.okWide Try.prog W .any base 22 v) (h : DataW.Trod enc Try.prog W 0 (fun _ => true) true 22 v d p) : ∃ A n c l, v = .slice A n c ∧ RnAt W W.heap.size A n c l ∧ c ≤ maxLen := by
  obtain ⟨A, n, c, l, h1, h2, h3, h4, h5, h6, h7⟩ := open_slA (encA := fun x : LN × List PC => x.1.cells)
    (ok := fun r => (-9223372036854775808 ≤ r.1.kind ∧ r.1.kind ≤ 9223372036854775807) ∧ ∃ A' n' c', r.1.pv = .slice A' n' c' ∧ PcAt W W.heap.size A' n' c' r.2) (sz := 5) Try.underlying22 (by kernel_rfl) (by omega) (fun x => rfl)
    (fun fuel cs x h => dec_ln fuel cs x h) hv h
  refine ⟨A, n, c, l, h1, ⟨⟨by unfold lnsOf; rw [List.length_map, h2], ?_, h3, fun x hx => ?_⟩, fun r hr => (h7 r hr).2⟩, h4⟩
  · unfold lns lnsOf; rw [List.flatMap_map]; exact h6
  · obtain ⟨r, hr, rfl⟩ := List.mem_map.1 hx; exact (h7 r hr).1
end Go.Proofs.Ytdnpcplboohdpaa
