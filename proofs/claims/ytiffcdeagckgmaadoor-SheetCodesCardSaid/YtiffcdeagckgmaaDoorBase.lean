/- Words for memory that the walks of this seat share: a slice that reads as a list; what a pure call says; a block known whole. No function of the program is named here. -/
import Derived.WalkKit
import Derived.ProofKit
import Derived.OpenShut
import Derived.Deep.MidRow
import Derived.Deep.Slices
import Derived.Deep.QuietTactic
import Derived.BigQuiet
import Derived.WalkSpells
import Derived.WalkLawsBesides
import Derived.Handy
namespace Go.Proofs.YtiffcdeagckgmaaDoor
open Go.RowKit

/-! ### what a call says that leaves old memory alone -/
def Ret (w : World) (v : Value) (e : Ending) (w' : World) : Prop := e = .returned v ∧ Below w.heap.size w w'
theorem Ret.mk {w w' : World} {v v' : Value} (h : v' = v) (hb : Below w.heap.size w w') : Ret w v (.returned v') w' := ⟨by rw [h], hb⟩
theorem Ret.same {w : World} {v : Value} : Ret w v (.returned v) w := ⟨rfl, Below.refl _ _⟩

theorem bDrewN {B : Nat} {a w : World} (h : Below B a w) (n : Nat) : Below B a (w.drewN n) := ⟨h.os, h.tape, h.output, h.size, h.block⟩
theorem bOfDrewN {B : Nat} {w w' : World} {n : Nat} (h : Below B (w.drewN n) w') : Below B w w' := ⟨h.os, h.tape, h.output, h.size, h.block⟩
theorem bRange {B : Nat} {w w' : World} (h : Below B w w') {b o : Nat} {cs : List Value} (hb : b < B) (hr : w.rangeAt b o cs) : w'.rangeAt b o cs :=
  fun j v hv => (h.cell (p := ⟨b, o + j, none⟩) hb).trans (hr j v hv)
theorem bBlk {B : Nat} {w w' : World} (h : Below B w w') {b : Nat} {o : Obj} (hb : b < B) (hr : w.heap[b]? = some o) : w'.heap[b]? = some o := (h.block b hb).trans hr
theorem bNext {w w1 w2 : World} (h : Below w.heap.size w w1) (k : Below w1.heap.size w1 w2) : Below w.heap.size w w2 := h.trans (k.mono h.size)
theorem bReads {B : Nat} {w w' : World} (h : Below B w w') : (∀ b o, b < B → w'.cell? ⟨b, o, none⟩ = w.cell? ⟨b, o, none⟩) ∧ (∀ b o, b < B → w'.frozen? ⟨b, o, none⟩ = w.frozen? ⟨b, o, none⟩) :=
  ⟨fun b o hb => h.cell (p := ⟨b, o, none⟩) hb, fun b o hb => h.frozen (p := ⟨b, o, none⟩) hb⟩

theorem ret_int {k : IntKind} {a b : Int} (h : a = b) : Ending.returned (.int k a) = .returned (.int k b) := by rw [h]
theorem ret_bool {a b : Bool} (h : a = b) : Ending.returned (.bool a) = .returned (.bool b) := by rw [h]
theorem vbool {a b : Bool} (h : a = b) : Value.bool a = .bool b := by rw [h]
theorem vint {k : IntKind} {a b : Int} (h : a = b) : Value.int k a = .int k b := by rw [h]
theorem ret_int_bool {k : IntKind} {a b : Int} {c d : Bool} (h : a = b) (h' : c = d) : Ending.returned (.tuple #[.int k a, .bool c]) = .returned (.tuple #[.int k b, .bool d]) := by rw [h, h']
theorem agg_int_bool {k : IntKind} {a b : Int} {c d : Bool} (h : a = b) (h' : c = d) : Value.agg #[.int k a, .bool c] = .agg #[.int k b, .bool d] := by rw [h, h']

/-! ### calls inside a region that only reads -/
theorem q_same {P : Program} {f : FuncId} {args : Array Value} {w : World} {n : Nat} {v : Value}
    (h : Calls P f args (w.drewN n) fun e w' => e = .returned v ∧ w.drewN n = w') : Calls P f args (w.drewN n) fun e w'' => e = .returned v ∧ ∃ m, w'' = w.drewN m :=
  h.mono fun _ _ ⟨he, hm⟩ => ⟨he, n, hm.symm⟩

/-! ### bytes -/
def bv (b : UInt8) : Value := .int .u8 (b.toNat : Int)
def bvs (l : List UInt8) : List Value := l.map bv
def u8 (z : Int) : UInt8 := UInt8.ofNat (z % 256).toNat
theorem u8_toNat (z : Int) : ((u8 z).toNat : Int) = z % 256 := by
  simp [u8]; omega
theorem bv_u8 (z : Int) : bv (u8 z) = .int .u8 (z % 256) := by rw [bv, u8_toNat]
theorem bvs_append (a b : List UInt8) : bvs (a ++ b) = bvs a ++ bvs b := List.map_append ..
theorem bvs_len (l : List UInt8) : (bvs l).length = l.length := List.length_map ..

/-! ### ranges -/
theorem range_nil (w : World) (b o : Nat) : w.rangeAt b o [] := fun j v h => by simp at h
theorem range_append {w : World} {b o : Nat} {xs ys : List Value} : w.rangeAt b o (xs ++ ys) ↔ w.rangeAt b o xs ∧ w.rangeAt b (o + xs.length) ys := by
  constructor
  · intro h
    refine ⟨fun j v hv => h j v ?_, fun j v hv => ?_⟩
    · rw [List.getElem?_append_left (List.getElem?_eq_some_iff.1 hv).1]; exact hv
    · rw [Nat.add_assoc]
      exact h _ v (by rw [List.getElem?_append_right (by omega)]; rw [Nat.add_sub_cancel_left]; exact hv)
  · rintro ⟨h1, h2⟩ j v hv
    by_cases hj : j < xs.length
    · rw [List.getElem?_append_left hj] at hv; exact h1 j v hv
    · rw [List.getElem?_append_right (by omega)] at hv
      have := h2 _ v hv
      rwa [Nat.add_assoc, Nat.add_sub_cancel' (by omega)] at this
theorem range_cut {w : World} {b o : Nat} {xs : List Value} (h : w.rangeAt b o xs) (k m : Nat) : w.rangeAt b (o + k) ((xs.drop k).take m) := fun j v hv => by
  rw [List.getElem?_take] at hv
  split at hv
  · rw [List.getElem?_drop] at hv
    rw [Nat.add_assoc]; exact h _ v hv
  · cases hv
theorem range_cell {w : World} {b o : Nat} {xs : List Value} (h : w.rangeAt b o xs) {k : Nat} {v : Value} (hk : xs[k]? = some v) : w.cell? ⟨b, o + k, none⟩ = some v := h k v hk
theorem range_lt {w : World} {b o : Nat} {xs : List Value} (h : w.rangeAt b o xs) (hx : xs ≠ []) : b < w.heap.size := by
  match xs, hx with
  | v :: r, _ => exact World.block_lt_of_cell? w ⟨b, o + 0, none⟩ (h 0 v rfl)

/-! ### a slice that reads as a list -/
structure Sl (w : World) (B sz : Nat) (A : Option Addr) (n : Nat) (xs : List Value) : Prop where
  len : xs.length = n * sz
  at_ : 0 < n → ∃ b o, A = some ⟨b, o, none⟩ ∧ b < B ∧ w.rangeAt b o xs

section
variable {w w' : World} {B B' sz n : Nat} {A : Option Addr} {xs : List Value}
theorem Sl.nil : Sl w B sz A 0 [] := ⟨by simp, fun h => absurd h (by omega)⟩
theorem Sl.below (h : Sl w B sz A n xs) (hb : Below B w w') : Sl w' B sz A n xs :=
  ⟨h.len, fun hn => by obtain ⟨b, o, e, hB, hr⟩ := h.at_ hn; exact ⟨b, o, e, hB, bRange hb hB hr⟩⟩
theorem Sl.mono (h : Sl w B sz A n xs) (hB : B ≤ B') : Sl w B' sz A n xs :=
  ⟨h.len, fun hn => by obtain ⟨b, o, e, hb, hr⟩ := h.at_ hn; exact ⟨b, o, e, by omega, hr⟩⟩
theorem Sl.next (h : Sl w w.heap.size sz A n xs) (hb : Below w.heap.size w w') : Sl w' w'.heap.size sz A n xs := (h.below hb).mono hb.size
theorem Sl.drewN (h : Sl w B sz A n xs) (k : Nat) : Sl (w.drewN k) B sz A n xs := ⟨h.len, h.at_⟩
theorem Sl.drew (h : Sl w B sz A n xs) : Sl w.drew B sz A n xs := ⟨h.len, h.at_⟩
/-- an element's cells -/
theorem Sl.elem (h : Sl w B sz A n xs) {k : Nat} (hk : k < n) : ∃ b o, A = some ⟨b, o, none⟩ ∧ b < B ∧ w.rangeAt b o xs ∧ w.rangeAt b (o + k * sz) ((xs.drop (k * sz)).take sz) := by
  obtain ⟨b, o, e, hb, hr⟩ := h.at_ (by omega)
  exact ⟨b, o, e, hb, hr, range_cut hr _ _⟩
/-- a slice of a slice: 's[lo:hi]' -/
theorem Sl.cut (h : Sl w B sz A n xs) {lo hi cap : Nat} (h1 : lo ≤ hi) (h2 : hi ≤ n) (hc : n ≤ cap) :
    Sl w B sz (if cap = lo then A else A.map (·.add (lo * sz))) (hi - lo) ((xs.drop (lo * sz)).take ((hi - lo) * sz)) := by
  refine ⟨?_, fun hn => ?_⟩
  · rw [List.length_take, List.length_drop, h.len, ← Nat.sub_mul]
    exact Nat.min_eq_left (Nat.mul_le_mul_right _ (by omega))
  · obtain ⟨b, o, rfl, hb, hr⟩ := h.at_ (by omega)
    rw [if_neg (by omega)]
    exact ⟨b, o + lo * sz, by rw [Option.map_some, Addr.add_mid], hb, range_cut hr _ _⟩
theorem Sl.of_own {base : Nat} {e : TypeId} {c : Nat} (h : w.ownsRow base e sz (.slice A n c) n xs) : Sl w w.heap.size sz A n xs := by
  refine ⟨h.1, fun hn => ?_⟩
  rcases h.2 with ⟨_, h0⟩ | ⟨g, cap, cur, hv, _, hg, _, _, _, ht⟩
  · omega
  · injection hv with hA
    refine ⟨g, 0, hA, (Array.getElem?_eq_some_iff.1 hg).1, fun j v hj => ?_⟩
    rw [cell_of_row w g (0 + j) cur e (0, 0) hg, Nat.zero_add]
    rw [← ht, List.getElem?_take] at hj
    split at hj
    · simpa using hj
    · cases hj
end

/-- the k-th part of equal parts joined -/
theorem flatMap_part {α : Type} (enc : α → List Value) (sz : Nat) (hs : ∀ x, (enc x).length = sz) : ∀ (l : List α) (k : Nat) (x : α), l[k]? = some x → ((l.flatMap enc).drop (k * sz)).take sz = enc x
  | [], k, x, h => by simp at h
  | y :: l, 0, x, h => by
    simp at h; subst h
    simp [List.flatMap_cons, ← hs y]
  | y :: l, k + 1, x, h => by
    have ih := flatMap_part enc sz hs l k x (by simpa using h)
    rw [List.flatMap_cons, Nat.add_mul, Nat.one_mul, Nat.add_comm (k * sz), ← List.drop_drop, ← hs y, List.drop_left, hs y]
    exact ih
theorem flatMap_len {α : Type} (enc : α → List Value) (sz : Nat) (hs : ∀ x, (enc x).length = sz) (l : List α) : (l.flatMap enc).length = l.length * sz := by
  induction l with
  | nil => simp
  | cons y l ih => rw [List.flatMap_cons, List.length_append, ih, hs, List.length_cons, Nat.add_mul, Nat.one_mul, Nat.add_comm]
theorem map_flat {α : Type} (f : α → Value) (l : List α) : l.flatMap (fun x => [f x]) = l.map f := by
  induction l with
  | nil => rfl
  | cons y l ih => simp [List.flatMap_cons, ih]

/-! ### arguments opened -/
theorem list_choose {α : Type} {q : Nat → α → Prop} : ∀ (n : Nat), (∀ i, i < n → ∃ x, q i x) → ∃ l : List α, l.length = n ∧ ∀ i x, l[i]? = some x → q i x
  | 0, _ => ⟨[], rfl, fun i x h => by simp at h⟩
  | n + 1, h => by
    obtain ⟨l, hl, hq⟩ := list_choose n (fun i hi => h i (by omega))
    obtain ⟨y, hy⟩ := h n (by omega)
    refine ⟨l ++ [y], by simp [hl], fun i x hx => ?_⟩
    rw [List.getElem?_append] at hx
    split at hx
    · exact hq i x hx
    · rename_i hi
      have hi' : i = n := by
        have := (List.getElem?_eq_some_iff.1 hx).1
        simp at this; omega
      subst hi'
      rw [hl, Nat.sub_self] at hx
      simp at hx; subst hx; exact hy
theorem parts_flatMap {α : Type} (enc : α → List Value) (sz : Nat) : ∀ (l : List α) (cs : List Value), cs.length = l.length * sz → (∀ i x, l[i]? = some x → (cs.drop (i * sz)).take sz = enc x) → cs = l.flatMap enc
  | [], cs, h, _ => by simpa using h
  | y :: l, cs, h, hp => by
    have h0 := hp 0 y rfl
    have ih := parts_flatMap enc sz l (cs.drop sz) (by rw [List.length_drop, h, List.length_cons, Nat.add_mul]; omega) (fun i x hx => by
      rw [List.drop_drop, Nat.add_comm, show i * sz + sz = (i + 1) * sz from by rw [Nat.add_mul, Nat.one_mul]]
      exact hp (i + 1) x (by simpa using hx))
    simp only [Nat.zero_mul, List.drop_zero] at h0
    rw [List.flatMap_cons, ← h0, ← ih, List.take_append_drop]
theorem range_flatMap {α : Type} (enc : α → List Value) (sz : Nat) (hs : ∀ x, (enc x).length = sz) (w : World) (b : Nat) : ∀ (l : List α) (o : Nat), (∀ i x, l[i]? = some x → w.rangeAt b (o + i * sz) (enc x)) → w.rangeAt b o (l.flatMap enc)
  | [], o, _ => range_nil w b o
  | y :: l, o, h => by
    rw [List.flatMap_cons, range_append, hs]
    refine ⟨by simpa using h 0 y rfl, range_flatMap enc sz hs w b l (o + sz) (fun i x hx => ?_)⟩
    rw [Nat.add_assoc, show sz + i * sz = (i + 1) * sz from by rw [Nat.add_mul, Nat.one_mul, Nat.add_comm]]
    exact h (i + 1) x (by simpa using hx)

section
open Go.ChangeShapes Go.WideShapes Go.Deep
variable {H : Type} {enc : TypeId × Value → H} {P : Program} {w : World} {base : Nat}
/-- an array by value: its cells as equal parts, each read by 'dec' -/
theorem open_arr {α : Type} {encA : α → List Value} {ok : α → Prop} {sz n : Nat} {t e : TypeId} {v : Value} {d : DataW H} {p : List MemPlace} (ht : P.underlying t = some (.array n e)) (he : P.cellsOf e = sz) (hC : P.cellsOf t = n * sz)
    (hdec : ∀ fuel cs x, DataW.trod enc P w 0 (fun _ => true) true fuel e cs = some x → ∃ a, cs = encA a ∧ ok a)
    (hv : Value.okWide P w .any base t v) (h : DataW.Trod enc P w 0 (fun _ => true) true t v d p) : ∃ l : List α, l.length = n ∧ v = .agg (l.flatMap encA).toArray ∧ ∀ x ∈ l, ok x := by
  have hv' : ∃ cs, v = .agg cs ∧ cs.size = P.cellsOf t := by
    simp only [Value.okWide, ht] at hv
    obtain ⟨cs, h1, h2, _⟩ := hv
    exact ⟨cs, h1, h2⟩
  obtain ⟨cs, rfl, hs⟩ := hv'
  obtain ⟨fuel, hf⟩ := h
  obtain ⟨xs, m, _, _, hlen, hxl, hx⟩ := DataW.trod_array ht hf
  simp only [Value.cells] at hlen hx
  obtain ⟨l, hl, hq⟩ := list_choose (q := fun i a => (cs.toList.drop (i * sz)).take sz = encA a ∧ ok a) n (fun i hi => by
    have := hx i hi
    rw [he, List.getElem?_eq_getElem (by omega)] at this
    exact hdec _ _ _ this)
  refine ⟨l, hl, ?_, fun x hx => ?_⟩
  · have := parts_flatMap encA sz l cs.toList (by rw [hlen, hC, hl]) (fun i x hi => (hq i x hi).1)
    rw [← this]
  · obtain ⟨i, hi, rfl⟩ := List.getElem_of_mem hx
    exact (hq i _ (List.getElem?_eq_getElem hi)).2
/-- a slice: its elements, each read by 'dec' -/
theorem open_sl {α : Type} {encA : α → List Value} {ok : α → Prop} {sz : Nat} {t e : TypeId} {fuel : Nat} {cs0 : List Value} {x0 : DataW H × List MemPlace} (ht : P.underlying t = some (.slice e)) (he : P.cellsOf e = sz) (hsz : 0 < sz) (hlenA : ∀ x, (encA x).length = sz)
    (hdec : ∀ fuel cs x, DataW.trod enc P w 0 (fun _ => true) true fuel e cs = some x → ∃ a, cs = encA a ∧ ok a)
    (h : DataW.trod enc P w 0 (fun _ => true) true fuel t cs0 = some x0) : ∃ A n c, ∃ l : List α, cs0 = [.slice A n c] ∧ l.length = n ∧ n ≤ c ∧ c ≤ maxLen ∧ (A = none → c = 0) ∧ Sl w w.heap.size sz A n (l.flatMap encA) ∧ ∀ x ∈ l, ok x := by
  rcases open_slice ht h with ⟨rfl, _⟩ | ⟨a, len, cap, m, n, D, Pl, rfl, _, hl, hm, hmm, _, hi⟩
  · exact ⟨none, 0, 0, [], rfl, rfl, Nat.le_refl _, by simp [maxLen], fun _ => rfl, Sl.nil, by simp⟩
  · simp only [if_true] at hmm
    subst hmm
    obtain ⟨l, hll, hq⟩ := list_choose (q := fun i x => w.cells? 0 (a.add (i * sz)) sz = some (encA x) ∧ ok x) len (fun i hlt => by
      obtain ⟨cs', h1, h2⟩ := hi i (by omega)
      obtain ⟨x, rfl, hx⟩ := hdec _ _ _ h2
      rw [he] at h1
      exact ⟨x, h1, hx⟩)
    refine ⟨some a, len, m, l, rfl, hll, hl, hm, (fun h => by cases h), ⟨by rw [flatMap_len encA sz hlenA, hll], fun hn => ?_⟩, fun x hx => ?_⟩
    · have hcell : ∀ i x, l[i]? = some x → ∀ j v, (encA x)[j]? = some v → w.cell? ((a.add (i * sz)).add j) = some v := fun i x hx j v hv => by
        obtain ⟨_, hcl, hat⟩ := World.cells?_some (hq i x hx).1
        rw [hat j (by have := (List.getElem?_eq_some_iff.1 hv).1; omega), hv]
      have hx0 : l[0]? = some l[0] := List.getElem?_eq_getElem (by omega)
      have hv0 : (encA l[0])[0]? = some ((encA l[0])[0]'(by rw [hlenA]; exact hsz)) := List.getElem?_eq_getElem _
      have h00 := hcell 0 _ hx0 0 _ hv0
      simp only [Nat.zero_mul, Addr.add, if_true] at h00
      have hsp : a.spot = none := by
        unfold World.cell? at h00
        split at h00
        · split at h00
          · cases h00
          · rename_i hs; simpa using hs
        · cases h00
      obtain ⟨b, o, s⟩ := a
      simp only at hsp
      subst hsp
      refine ⟨b, o, rfl, World.block_lt_of_cell? w _ h00, range_flatMap encA sz hlenA w b l o (fun i x hx j v hv => ?_)⟩
      have := hcell i x hx j v hv
      rwa [Addr.add_mid, Addr.add_mid] at this
    · obtain ⟨i, hi, rfl⟩ := List.getElem_of_mem hx
      exact (hq i _ (List.getElem?_eq_getElem hi)).2
/-- a slice as an argument -/
theorem open_slA {α : Type} {encA : α → List Value} {ok : α → Prop} {sz : Nat} {t e : TypeId} {v : Value} {d : DataW H} {p : List MemPlace} (ht : P.underlying t = some (.slice e)) (he : P.cellsOf e = sz) (hsz : 0 < sz) (hlenA : ∀ x, (encA x).length = sz)
    (hdec : ∀ fuel cs x, DataW.trod enc P w 0 (fun _ => true) true fuel e cs = some x → ∃ a, cs = encA a ∧ ok a)
    (hv : Value.okWide P w .any base t v) (h : DataW.Trod enc P w 0 (fun _ => true) true t v d p) : ∃ A n c, ∃ l : List α, v = .slice A n c ∧ l.length = n ∧ n ≤ c ∧ c ≤ maxLen ∧ (A = none → c = 0) ∧ Sl w w.heap.size sz A n (l.flatMap encA) ∧ ∀ x ∈ l, ok x := by
  obtain ⟨A, n, c, rfl⟩ := okWide_slice ht hv
  obtain ⟨fuel, hf⟩ := h
  obtain ⟨A', n', c', l, hcs, h1, h2, h3, h4, h5, h6⟩ := open_sl ht he hsz hlenA hdec hf
  simp only [Value.cells, List.cons.injEq, and_true] at hcs
  injection hcs with e1 e2 e3
  subst e1 e2 e3
  exact ⟨A, n, c, l, rfl, h1, h2, h3, h4, h5, h6⟩
theorem dec_int {k : IntKind} {e : TypeId} (he : P.underlying e = some (.int k)) (fuel : Nat) (cs : List Value) (x : DataW H × List MemPlace) (h : DataW.trod enc P w 0 (fun _ => true) true fuel e cs = some x) :
    ∃ z : Int, cs = [.int k z] ∧ (Lit.int k z).wf = true := by
  obtain ⟨n, h1, _, h2⟩ := DataW.trod_int he h
  exact ⟨n, h1, h2⟩
theorem u8_of {z : Int} (h : (Lit.int .u8 z).wf = true) : z = ((UInt8.ofNat z.toNat).toNat : Int) := by
  simp [Lit.wf, IntKind.min, IntKind.max, IntKind.signed, IntKind.bits] at h
  simp
  omega
theorem dec_byte {e : TypeId} (he : P.underlying e = some (.int .u8)) (fuel : Nat) (cs : List Value) (x : DataW H × List MemPlace) (h : DataW.trod enc P w 0 (fun _ => true) true fuel e cs = some x) :
    ∃ z : UInt8, cs = [bv z] ∧ True := by
  obtain ⟨n, h1, h2⟩ := dec_int he fuel cs x h
  exact ⟨UInt8.ofNat n.toNat, by rw [h1, bv, ← u8_of h2], trivial⟩
theorem wf64 {z : Int} (h : (Lit.int .i64 z).wf = true) : -9223372036854775808 ≤ z ∧ z ≤ 9223372036854775807 := by
  simpa [Lit.wf, IntKind.min, IntKind.max, IntKind.signed, IntKind.bits] using h
theorem wf_u8 {z : Int} (h : (Lit.int .u8 z).wf = true) : 0 ≤ z ∧ z ≤ 255 := by
  simpa [Lit.wf, IntKind.min, IntKind.max, IntKind.signed, IntKind.bits] using h
theorem wf_u16 {z : Int} (h : (Lit.int .u16 z).wf = true) : 0 ≤ z ∧ z ≤ 65535 := by
  simpa [Lit.wf, IntKind.min, IntKind.max, IntKind.signed, IntKind.bits] using h
theorem wf_u32 {z : Int} (h : (Lit.int .u32 z).wf = true) : 0 ≤ z ∧ z ≤ 4294967295 := by
  simpa [Lit.wf, IntKind.min, IntKind.max, IntKind.signed, IntKind.bits] using h
/-- an array of integers, by value -/
theorem open_ints_arr {k : IntKind} {n : Nat} {t e : TypeId} {v : Value} {d : DataW H} {p : List MemPlace} (ht : P.underlying t = some (.array n e)) (hei : P.underlying e = some (.int k)) (he : P.cellsOf e = 1) (hC : P.cellsOf t = n)
    (hv : Value.okWide P w .any base t v) (h : DataW.Trod enc P w 0 (fun _ => true) true t v d p) : ∃ l : List Int, l.length = n ∧ v = .agg (l.map (Value.int k)).toArray ∧ ∀ x ∈ l, (Lit.int k x).wf = true := by
  obtain ⟨l, h1, h2, h3⟩ := open_arr (encA := fun x => [Value.int k x]) (ok := fun x => (Lit.int k x).wf = true) ht he (by rw [hC, Nat.mul_one]) (dec_int hei) hv h
  exact ⟨l, h1, by rw [h2, map_flat], h3⟩
/-- an array of bytes, by value -/
theorem open_bytes_arr {n : Nat} {t e : TypeId} {v : Value} {d : DataW H} {p : List MemPlace} (ht : P.underlying t = some (.array n e)) (hei : P.underlying e = some (.int .u8)) (he : P.cellsOf e = 1) (hC : P.cellsOf t = n)
    (hv : Value.okWide P w .any base t v) (h : DataW.Trod enc P w 0 (fun _ => true) true t v d p) : ∃ l : List UInt8, l.length = n ∧ v = .agg (bvs l).toArray := by
  obtain ⟨l, h1, h2, _⟩ := open_arr (encA := fun b : UInt8 => [bv b]) (ok := fun _ => True) ht he (by rw [hC, Nat.mul_one]) (dec_byte hei) hv h
  exact ⟨l, h1, by rw [h2, map_flat bv, bvs]⟩
/-- a slice of integers -/
theorem open_ints_sl {k : IntKind} {t e : TypeId} {v : Value} {d : DataW H} {p : List MemPlace} (ht : P.underlying t = some (.slice e)) (hei : P.underlying e = some (.int k)) (he : P.cellsOf e = 1)
    (hv : Value.okWide P w .any base t v) (h : DataW.Trod enc P w 0 (fun _ => true) true t v d p) : ∃ A n c, ∃ l : List Int, v = .slice A n c ∧ l.length = n ∧ n ≤ c ∧ c ≤ maxLen ∧ (A = none → c = 0) ∧ Sl w w.heap.size 1 A n (l.map (Value.int k)) ∧ ∀ x ∈ l, (Lit.int k x).wf = true := by
  obtain ⟨A, n, c, l, h1, h2, h3, h4, h5, h6, h7⟩ := open_slA (encA := fun x => [Value.int k x]) (ok := fun x => (Lit.int k x).wf = true) ht he (by omega) (fun _ => rfl) (dec_int hei) hv h
  exact ⟨A, n, c, l, h1, h2, h3, h4, h5, by rw [← map_flat]; exact h6, h7⟩
/-- a slice of bytes -/
theorem open_bytes_sl {t e : TypeId} {v : Value} {d : DataW H} {p : List MemPlace} (ht : P.underlying t = some (.slice e)) (hei : P.underlying e = some (.int .u8)) (he : P.cellsOf e = 1)
    (hv : Value.okWide P w .any base t v) (h : DataW.Trod enc P w 0 (fun _ => true) true t v d p) : ∃ A n c, ∃ l : List UInt8, v = .slice A n c ∧ l.length = n ∧ n ≤ c ∧ c ≤ maxLen ∧ (A = none → c = 0) ∧ Sl w w.heap.size 1 A n (bvs l) := by
  obtain ⟨A, n, c, l, h1, h2, h3, h4, h5, h6, _⟩ := open_slA (encA := fun b : UInt8 => [bv b]) (ok := fun _ => True) ht he (by omega) (fun _ => rfl) (dec_byte hei) hv h
  exact ⟨A, n, c, l, h1, h2, h3, h4, h5, by rw [bvs, ← map_flat]; exact h6⟩
end
end Go.Proofs.YtiffcdeagckgmaaDoor
