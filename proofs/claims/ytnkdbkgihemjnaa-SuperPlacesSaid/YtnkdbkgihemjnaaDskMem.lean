
/- The disk in memory: a struct of five cells, its blocks' row, its loose writes' row; what stays as it is. -/
import Derived.Test.YtnkdbkgihemjnaaRow
import Derived.Test.YtnkdbkgihemjnaaDskPlain
import Derived.Test.YtnkdbkgihemjnaaMem
import Derived.Test.YtnkdbkgihemjnaaBut
import Derived.Test.YtnkdbkgihemjnaaRound
import Derived.Test.YtnkdbkgihemjnaaProg
import Derived.Lib.Hide
import Derived.Lib.MinMax
import Derived.StillTailTactics
namespace Go.Proofs.Ytnkdbkgihemjnaa
set_option linter.unusedSimpArgs false
set_option linter.unusedVariables false
open Go.RowKit

/-! ### rows of parts of one size -/
theorem flat_len {α : Type} {f : α → List Value} {sz : Nat} : ∀ {l : List α}, (∀ y ∈ l, (f y).length = sz) → (l.flatMap f).length = l.length * sz
  | [], _ => by simp
  | y :: l, h => by
    rw [List.flatMap_cons, List.length_append, h y (by simp), flat_len (fun z hz => h z (by simp [hz])), List.length_cons, Nat.succ_mul]
    omega
theorem flat_part {α : Type} {f : α → List Value} {sz : Nat} : ∀ {l : List α} {k : Nat} {x : α}, (∀ y ∈ l, (f y).length = sz) → l[k]? = some x → ((l.flatMap f).drop (k * sz)).take sz = f x
  | [], k, x, _, h => by simp at h
  | y :: l, 0, x, hs, h => by
    obtain rfl : y = x := by simpa using h
    rw [List.flatMap_cons, Nat.zero_mul, List.drop_zero, ← hs y (by simp), List.take_left]
  | y :: l, k + 1, x, hs, h => by
    rw [List.flatMap_cons, Nat.succ_mul, Nat.add_comm, ← List.drop_drop, ← hs y (by simp), List.drop_left, hs y (by simp)]
    exact flat_part (fun z hz => hs z (by simp [hz])) (by simpa using h)
theorem flat_set {α : Type} {f : α → List Value} {sz : Nat} : ∀ {l : List α} {k : Nat} {x : α}, (∀ y ∈ l, (f y).length = sz) → k < l.length → (f x).length = sz →
    (l.set k x).flatMap f = (l.flatMap f).take (k * sz) ++ f x ++ (l.flatMap f).drop (k * sz + sz)
  | [], k, x, _, h, _ => by simp at h
  | y :: l, 0, x, hs, h, hx => by
    rw [List.set_cons_zero, List.flatMap_cons, List.flatMap_cons, Nat.zero_mul, List.take_zero, Nat.zero_add, List.nil_append, ← hs y (by simp), List.drop_left]
  | y :: l, k + 1, x, hs, h, hx => by
    have hy := hs y (by simp)
    have e1 : (f y ++ l.flatMap f).take (k * sz + sz) = f y ++ (l.flatMap f).take (k * sz) := by
      rw [List.take_append, List.take_of_length_le (by omega)]
      congr 2; omega
    have e2 : (f y ++ l.flatMap f).drop (k * sz + sz + sz) = (l.flatMap f).drop (k * sz + sz) := by
      rw [List.drop_append, List.drop_of_length_le (by omega), List.nil_append]
      congr 1; omega
    rw [List.set_cons_succ, List.flatMap_cons, List.flatMap_cons, flat_set (fun z hz => hs z (by simp [hz])) (by simpa using h) hx, Nat.succ_mul, e1, e2]
    simp only [List.append_assoc]

/-! ### many cells of a known block at once -/
def setMany (cs : Array Value) : Nat → List Value → Array Value
  | _, [] => cs
  | o, v :: vs => setMany (cs.setIfInBounds o v) (o + 1) vs
theorem setMany_list : ∀ (vs l : List Value) (o : Nat), o + vs.length ≤ l.length → setMany l.toArray o vs = (l.take o ++ vs ++ l.drop (o + vs.length)).toArray
  | [], l, o, h => by simp [setMany]
  | v :: vs, l, o, h => by
    have ho : o < l.length := by simp at h; omega
    rw [setMany, List.setIfInBounds_toArray, setMany_list vs (l.set o v) (o + 1) (by simp at h ⊢; omega)]
    congr 1
    have e1 : (l.set o v).take (o + 1) = l.take o ++ [v] := by
      apply List.ext_getElem?
      intro i
      rw [List.getElem?_take, List.getElem?_append, List.getElem?_take, List.length_take]
      rcases Nat.lt_trichotomy i o with hi | hi | hi
      · rw [if_pos (by omega), List.getElem?_set_ne (by omega), if_pos (by omega), if_pos hi]
      · subst hi; rw [if_pos (by omega), List.getElem?_set_self ho, if_neg (by omega)]; simp [Nat.min_eq_left (Nat.le_of_lt ho)]
      · rw [if_neg (by omega), if_neg (by omega), List.getElem?_eq_none (by simp; omega)]
    rw [e1, List.drop_set_of_lt (by omega)]
    simp [Nat.add_assoc, Nat.add_comm 1]
theorem blk_sets {b : Nat} {t : TypeId} : ∀ (vs : List Value) {W : World} {cs : Array Value} (o : Nat), W.heap[b]? = some (.cells cs t) → (W.setCells b o vs).heap[b]? = some (.cells (setMany cs o vs) t)
  | [], W, cs, o, h => h
  | v :: vs, W, cs, o, h => blk_sets vs (o + 1) (blk_set h o v)
theorem sets_far : ∀ (vs : List Value) (W : World) (b o k : Nat), k ≠ b → (W.setCells b o vs).heap[k]? = W.heap[k]?
  | [], W, b, o, k, h => rfl
  | v :: vs, W, b, o, k, h => (sets_far vs (W.setCell ⟨b, o, none⟩ v) b (o + 1) k h).trans (Below.heap_setCell W ⟨b, o, none⟩ v k h)
theorem but_sets : ∀ (vs : List Value) {n : Nat} {X : Nat → Prop} {w W : World} (b o : Nat), But n X w W → X b → But n X w (W.setCells b o vs)
  | [], _, _, _, _, _, _, h, _ => h
  | v :: vs, _, _, _, _, b, o, h, hb => but_sets vs b (o + 1) (h.set (p := ⟨b, o, none⟩) hb v) hb
theorem there_blk {W : World} {b : Nat} {cs : Array Value} {t : TypeId} (h : W.heap[b]? = some (.cells cs t)) {o n : Nat} (hn : o + n ≤ cs.size) : W.there b o n := fun j hj =>
  ⟨by rw [blk_cell h (v := cs[o + j]'(by omega)) (Array.getElem?_eq_getElem (by omega))]; rfl, blk_frozen h _⟩

/-! ### blocks and loose writes as cells -/
def bkv (b : Blk) : Value := .agg (bvs b).toArray
def wcs (x : Nat × Blk) : List Value := .int .i64 (x.1 : Int) :: bvs x.2
def bcs (bl : List Blk) : List Value := bl.flatMap bvs
def lcs (lo : List (Nat × Blk)) : List Value := lo.flatMap wcs
theorem DS.Ok.bvs {s : DS} (h : s.Ok) : ∀ y ∈ s.bl, (bvs y).length = 128 := fun y hy => by rw [bvs_len]; exact h.bl y hy
theorem DS.Ok.wcs {s : DS} (h : s.Ok) : ∀ y ∈ s.lo, (wcs y).length = 129 := fun y hy => by simp [Go.Proofs.Ytnkdbkgihemjnaa.wcs, bvs_len, (h.lo y hy).2]
theorem one_lcs (lo : List (Nat × Blk)) : ∀ u ∈ lcs lo, u.oneCell' = true := fun u hu => by
  obtain ⟨x, _, hx⟩ := List.mem_flatMap.1 hu
  rcases List.mem_cons.1 hx with rfl | h
  · rfl
  · exact oneCell_bvs _ u h

/-! ### the disk -/
def dkHead (B n : Nat) (v : Value) (f : Int) (d : Nat) (x : Bool) : Array Value := #[.slice (some ⟨B, 0, none⟩) n n, v, .int .i64 f, .int .i64 (d : Int), .bool x]
def dkCells (B : Nat) (v : Value) (s : DS) : Array Value := dkHead B s.bl.length v s.fuse s.done s.down
structure Dk (w : World) (base p B : Nat) (v : Value) (s : DS) : Prop where
  hd : w.heap[p]? = some (.cells (dkCells B v s) 107)
  bl : w.heap[B]? = some (.cells (bcs s.bl).toArray 40)
  lo : w.ownsRow base 112 129 v s.lo.length (lcs s.lo)
  pB : p ≠ B
  bp : base ≤ p
  bB : base ≤ B
  vp : v.ownBlock ≠ some p
  vB : v.ownBlock ≠ some B
  ok : s.Ok
/-- what is the disk's -/
def Own (p B : Nat) (v : Value) (k : Nat) : Prop := k = p ∨ k = B ∨ v.ownBlock = some k
structure DStep (p B : Nat) (v v' : Value) (w w' : World) : Prop where
  but : But w.heap.size (Own p B v) w w'
  own : ∀ k, v'.ownBlock = some k → v.ownBlock = some k ∨ w.heap.size ≤ k
theorem DStep.refl (p B : Nat) (v : Value) (w : World) : DStep p B v v w w := ⟨But.refl _ _ _, fun k h => .inl h⟩
theorem But.widen {n : Nat} {X Y : Nat → Prop} {w w' : World} (h : But n X w w') (hx : ∀ k, X k → Y k) : But n Y w w' := ⟨h.os, h.tape, h.output, h.size, fun k hk hy => h.block k hk fun x => hy (hx k x)⟩
theorem But.less {n m : Nat} {X : Nat → Prop} {w w' : World} (h : But n X w w') (hm : m ≤ n) : But m X w w' := ⟨h.os, h.tape, h.output, h.size, fun k hk hy => h.block k (by omega) hy⟩
theorem DStep.trans {p B : Nat} {v v' v'' : Value} {a b c : World} (h : DStep p B v v' a b) (k : DStep p B v' v'' b c) : DStep p B v v'' a c := by
  refine ⟨⟨k.but.os.trans h.but.os, k.but.tape.trans h.but.tape, k.but.output.trans h.but.output, Nat.le_trans h.but.size k.but.size, fun i hi hx => ?_⟩, fun i hi => ?_⟩
  · refine (k.but.block i (by have := h.but.size; omega) fun hy => ?_).trans (h.but.block i hi hx)
    rcases hy with e | e | e
    · exact hx (.inl e)
    · exact hx (.inr (.inl e))
    · rcases h.own i e with e2 | e2
      · exact hx (.inr (.inr e2))
      · omega
  · rcases k.own i hi with e | e
    · exact h.own i e
    · exact .inr (by have := h.but.size; omega)
theorem Dk.lt {w : World} {base p B : Nat} {v : Value} {s : DS} (h : Dk w base p B v s) : p < w.heap.size ∧ B < w.heap.size := ⟨(Array.getElem?_eq_some_iff.1 h.hd).1, (Array.getElem?_eq_some_iff.1 h.bl).1⟩
theorem Dk.own_ge {w : World} {base p B : Nat} {v : Value} {s : DS} (h : Dk w base p B v s) : ∀ k, Own p B v k → base ≤ k ∧ k < w.heap.size := fun k hk => by
  rcases hk with rfl | rfl | e
  · exact ⟨h.bp, h.lt.1⟩
  · exact ⟨h.bB, h.lt.2⟩
  · exact h.lo.lt k e
/-- nothing of the disk's is touched -/
theorem Dk.kept {w w' : World} {base p B n : Nat} {v : Value} {s : DS} {X : Nat → Prop} (h : Dk w base p B v s) (hb : But n X w w') (hn : w.heap.size ≤ n) (hx : ∀ k, X k → ¬ Own p B v k) : Dk w' base p B v s := by
  have hlt := h.lt
  refine ⟨hb.blk (by omega) (fun x => hx _ x (.inl rfl)) h.hd, hb.blk (by omega) (fun x => hx _ x (.inr (.inl rfl))) h.bl, ?_, h.pB, h.bp, h.bB, h.vp, h.vB, h.ok⟩
  refine ⟨h.lo.1, ?_⟩
  rcases h.lo.2 with e | ⟨g, cap, cur, e, h1, h2, h3⟩
  · exact .inl e
  · refine .inr ⟨g, cap, cur, e, h1, (hb.block g (by have := (Array.getElem?_eq_some_iff.1 h2).1; omega) fun x => hx g x (.inr (.inr (by rw [e]; rfl)))).trans h2, h3⟩
theorem Dk.below {w w' : World} {base p B : Nat} {v : Value} {s : DS} (h : Dk w base p B v s) (hb : Below w.heap.size w w') : Dk w' base p B v s :=
  h.kept (X := fun _ => False) (but_of hb) (Nat.le_refl _) (fun _ x => x.elim)
/-- the struct alone is turned -/
theorem Dk.head {w w' : World} {base p B n : Nat} {v : Value} {s s' : DS} (h : Dk w base p B v s) (hb : But n (· = p) w w') (hn : w.heap.size ≤ n)
    (hh : w'.heap[p]? = some (.cells (dkCells B v s') 107)) (e1 : s'.bl = s.bl) (e2 : s'.lo = s.lo) (ok : s'.Ok) : Dk w' base p B v s' := by
  have hlt := h.lt
  refine ⟨hh, ?_, ?_, h.pB, h.bp, h.bB, h.vp, h.vB, ok⟩
  · rw [e1]; exact hb.blk (by omega) (fun x => h.pB x.symm) h.bl
  · rw [e2]
    refine ⟨h.lo.1, ?_⟩
    rcases h.lo.2 with e | ⟨g, cap, cur, e, h1, h2, h3⟩
    · exact .inl e
    · refine .inr ⟨g, cap, cur, e, h1, (hb.block g (by have := (Array.getElem?_eq_some_iff.1 h2).1; omega) fun x => h.vp (by rw [e, x]; rfl)).trans h2, h3⟩
theorem Dk.blkAt {w : World} {base p B : Nat} {v : Value} {s : DS} (h : Dk w base p B v s) {i : Nat} (hi : i < s.bl.length) : w.rangeAt B (i * 128) (bvs (s.blk i)) := by
  have hp : ((bcs s.bl).drop (i * 128)).take 128 = bvs (s.blk i) := by
    unfold DS.blk
    rw [List.getElem?_eq_getElem hi]
    exact flat_part h.ok.bvs (List.getElem?_eq_getElem hi)
  have h0 : w.rangeAt B 0 (bcs s.bl) := fun j u hj => by rw [Nat.zero_add]; exact blk_cell h.bl (by simpa using hj)
  have := range_cut h0 (i * 128) 128
  rwa [hp, Nat.zero_add] at this
/-- the cells of a loose write -/
theorem Dk.loAt {w : World} {base p B : Nat} {v : Value} {s : DS} (h : Dk w base p B v s) {k : Nat} {x : Nat × Blk} (hk : s.lo[k]? = some x) :
    ∃ L cap, v = .slice (some ⟨L, 0, none⟩) s.lo.length cap ∧ s.lo.length ≤ cap ∧ L < w.heap.size ∧ w.rangeAt L (k * 129) (wcs x) := by
  have hlt : k < s.lo.length := (List.getElem?_eq_some_iff.1 hk).1
  rcases h.lo.2 with ⟨_, e⟩ | ⟨g, cap, cur, e, h1, h2, h3, h4, h5, h6⟩
  · omega
  · refine ⟨g, cap, e, h3, (Array.getElem?_eq_some_iff.1 h2).1, ?_⟩
    have h0 : w.rangeAt g 0 (lcs s.lo) := fun j u hj => by
      rw [Nat.zero_add]
      refine blk_cell h2 ?_
      rw [← h6, List.getElem?_take] at hj
      split at hj
      · simpa using hj
      · cases hj
    have := range_cut h0 (k * 129) 129
    rwa [show ((lcs s.lo).drop (k * 129)).take 129 = wcs x from flat_part h.ok.wcs hk, Nat.zero_add] at this
theorem Dk.form {w : World} {base p B : Nat} {v : Value} {s : DS} (h : Dk w base p B v s) : ∃ A c, v = .slice A s.lo.length c ∧ s.lo.length ≤ c ∧ c ≤ maxLen := own_form h.lo
end Go.Proofs.Ytnkdbkgihemjnaa
