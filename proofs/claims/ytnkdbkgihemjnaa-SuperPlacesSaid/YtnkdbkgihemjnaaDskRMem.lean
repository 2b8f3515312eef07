/- The reference's disk in memory: a struct of five cells, its blocks' row, its loose writes' row. -/
import Derived.Test.YtnkdbkgihemjnaaDskWrite
namespace Go.Proofs.Ytnkdbkgihemjnaa
set_option linter.unusedSimpArgs false
set_option linter.unusedVariables false
open Go.RowKit

def rHead (B n : Nat) (v : Value) (f : Int) (d : Nat) (x : Bool) : Array Value := #[.slice (some ⟨B, 0, none⟩) n n, v, .int .i64 f, .bool x, .int .i64 (d : Int)]
/-- F is the fuse as it stands; what lies below none is none -/
structure RDk (w : World) (base p B : Nat) (v : Value) (s : DS) (F : Int) : Prop where
  hd : w.heap[p]? = some (.cells (rHead B s.bl.length v F s.done s.down) 53)
  bl : w.heap[B]? = some (.cells (bcs s.bl).toArray 40)
  lo : w.ownsRow base 114 129 v s.lo.length (lcs s.lo)
  pB : p ≠ B
  bp : base ≤ p
  bB : base ≤ B
  vp : v.ownBlock ≠ some p
  vB : v.ownBlock ≠ some B
  ok : s.Ok
  hF : max F (-1) = s.fuse
  f63 : -9223372036854775808 ≤ F ∧ F ≤ 9223372036854775807
theorem RDk.lt {w : World} {base p B : Nat} {v : Value} {s : DS} {F : Int} (h : RDk w base p B v s F) : p < w.heap.size ∧ B < w.heap.size := ⟨(Array.getElem?_eq_some_iff.1 h.hd).1, (Array.getElem?_eq_some_iff.1 h.bl).1⟩
theorem RDk.own_ge {w : World} {base p B : Nat} {v : Value} {s : DS} {F : Int} (h : RDk w base p B v s F) : ∀ k, Own p B v k → base ≤ k ∧ k < w.heap.size := fun k hk => by
  rcases hk with rfl | rfl | e
  · exact ⟨h.bp, h.lt.1⟩
  · exact ⟨h.bB, h.lt.2⟩
  · exact h.lo.lt k e
/-- nothing of the disk's is touched -/
theorem RDk.kept {w w' : World} {base p B n : Nat} {v : Value} {s : DS} {F : Int} {X : Nat → Prop} (h : RDk w base p B v s F) (hb : But n X w w') (hn : w.heap.size ≤ n) (hx : ∀ k, X k → ¬ Own p B v k) : RDk w' base p B v s F := by
  have hlt := h.lt
  refine ⟨hb.blk (by omega) (fun x => hx _ x (.inl rfl)) h.hd, hb.blk (by omega) (fun x => hx _ x (.inr (.inl rfl))) h.bl, ?_, h.pB, h.bp, h.bB, h.vp, h.vB, h.ok, h.hF, h.f63⟩
  refine ⟨h.lo.1, ?_⟩
  rcases h.lo.2 with e | ⟨g, cap, cur, e, h1, h2, h3⟩
  · exact .inl e
  · refine .inr ⟨g, cap, cur, e, h1, (hb.block g (by have := (Array.getElem?_eq_some_iff.1 h2).1; omega) fun x => hx g x (.inr (.inr (by rw [e]; rfl)))).trans h2, h3⟩
theorem RDk.below {w w' : World} {base p B : Nat} {v : Value} {s : DS} {F : Int} (h : RDk w base p B v s F) (hb : Below w.heap.size w w') : RDk w' base p B v s F :=
  h.kept (X := fun _ => False) (but_of hb) (Nat.le_refl _) (fun _ x => x.elim)
/-- the struct alone is turned -/
theorem RDk.head {w w' : World} {base p B n : Nat} {v : Value} {s s' : DS} {F F' : Int} (h : RDk w base p B v s F) (hb : But n (· = p) w w') (hn : w.heap.size ≤ n)
    (hh : w'.heap[p]? = some (.cells (rHead B s'.bl.length v F' s'.done s'.down) 53)) (e1 : s'.bl = s.bl) (e2 : s'.lo = s.lo) (ok : s'.Ok) (hF : max F' (-1) = s'.fuse) (f63 : -9223372036854775808 ≤ F' ∧ F' ≤ 9223372036854775807) : RDk w' base p B v s' F' := by
  have hlt := h.lt
  refine ⟨hh, ?_, ?_, h.pB, h.bp, h.bB, h.vp, h.vB, ok, hF, f63⟩
  · rw [e1]; exact hb.blk (by omega) (fun x => h.pB x.symm) h.bl
  · rw [e2]
    refine ⟨h.lo.1, ?_⟩
    rcases h.lo.2 with e | ⟨g, cap, cur, e, h1, h2, h3⟩
    · exact .inl e
    · refine .inr ⟨g, cap, cur, e, h1, (hb.block g (by have := (Array.getElem?_eq_some_iff.1 h2).1; omega) fun x => h.vp (by rw [e, x]; rfl)).trans h2, h3⟩
theorem RDk.blkAt {w : World} {base p B : Nat} {v : Value} {s : DS} {F : Int} (h : RDk w base p B v s F) {i : Nat} (hi : i < s.bl.length) : w.rangeAt B (i * 128) (bvs (s.blk i)) := by
  have hp : ((bcs s.bl).drop (i * 128)).take 128 = bvs (s.blk i) := by
    unfold DS.blk
    rw [List.getElem?_eq_getElem hi]
    exact flat_part h.ok.bvs (List.getElem?_eq_getElem hi)
  have h0 : w.rangeAt B 0 (bcs s.bl) := fun j u hj => by rw [Nat.zero_add]; exact blk_cell h.bl (by simpa using hj)
  have := range_cut h0 (i * 128) 128
  rwa [hp, Nat.zero_add] at this
/-- the cells of a loose write -/
theorem RDk.loAt {w : World} {base p B : Nat} {v : Value} {s : DS} {F : Int} (h : RDk w base p B v s F) {k : Nat} {x : Nat × Blk} (hk : s.lo[k]? = some x) :
    ∃ L cap, v = .slice (some ⟨L, 0, none⟩) s.lo.length cap ∧ s.lo.length ≤ cap ∧ L < w.heap.size ∧ w.rangeAt L (k * 129) (wcs x) := by
  have hlt : k < s.lo.length := (List.getElem?_eq_some_iff.1 hk).1
  rcases h.lo.2 with ⟨_, e⟩ | ⟨g, cap, cur, e, h1, h2, h3, h4, h5, h6⟩
  · omega
  · refine ⟨g, cap, e, h3, (Array.getElem?_eq_some_iff.1 h2).1, ?_⟩
    have h0 : w.rangeAt g 0 (lcs s.lo) := fun j u hj => by
      rw [Nat.zero_add]
      refine blk_cell h2 ?_
      rw [← h6, List.getElem?_take] at hj
      split at hj
      · simpa using hj
      · cases hj
    have := range_cut h0 (k * 129) 129
    rwa [show ((lcs s.lo).drop (k * 129)).take 129 = wcs x from flat_part h.ok.wcs hk, Nat.zero_add] at this
theorem RDk.form {w : World} {base p B : Nat} {v : Value} {s : DS} {F : Int} (h : RDk w base p B v s F) : ∃ A c, v = .slice A s.lo.length c ∧ s.lo.length ≤ c ∧ c ≤ maxLen := own_form h.lo
end Go.Proofs.Ytnkdbkgihemjnaa
