/- The disk in plain Lean: blocks, loose writes, a fuse; what each call makes of them. No program in sight. -/
import Derived.Test.YtnkdbkgihemjnaaBase
namespace Go.Proofs.Ytnkdbkgihemjnaa
set_option linter.unusedSimpArgs false
set_option linter.unusedVariables false

abbrev Blk := List UInt8
def zblk : Blk := List.replicate 128 0
structure DS where
  bl : List Blk
  lo : List (Nat × Blk)
  fuse : Int
  done : Nat
  down : Bool
/-- each block has 128 bytes, each loose write is one of a block -/
structure DS.Ok (s : DS) : Prop where
  bl : ∀ b ∈ s.bl, b.length = 128
  lo : ∀ x ∈ s.lo, x.1 < s.bl.length ∧ x.2.length = 128
  n16 : 16 ≤ s.bl.length
  n128 : s.bl.length ≤ 128
  f63 : -9223372036854775808 ≤ s.fuse ∧ s.fuse ≤ 9223372036854775807
def DS.new (n : Nat) : DS := ⟨List.replicate n zblk, [], -1, 0, false⟩
theorem DS.new_ok {n : Nat} (h1 : 16 ≤ n) (h2 : n ≤ 128) : (DS.new n).Ok := by
  refine ⟨fun b hb => ?_, fun x hx => (by cases hx), by simpa [DS.new] using h1, by simpa [DS.new] using h2, by simp [DS.new]⟩
  rw [List.eq_of_mem_replicate hb]; simp [zblk]

/-! ### a write or a sync goes through, or does not -/
def DS.stops (s : DS) : Bool := s.down || decide (s.fuse = 0)
def DS.gone (s : DS) : DS := { s with fuse := if 0 < s.fuse then s.fuse - 1 else s.fuse, done := s.done + 1, down := false }
def DS.cut (s : DS) : DS := { s with down := true }
def DS.pass (s : DS) : DS := if s.stops then s.cut else s.gone
def DS.passE (s : DS) : Int := if s.stops then 12 else 0
def DS.inB (s : DS) (i : Int) : Bool := decide (0 ≤ i) && decide (i < s.bl.length)

def DS.write (s : DS) (i : Int) (b : Blk) : DS :=
  if s.inB i then (if s.stops then s.cut else { s.gone with lo := s.lo ++ [(i.toNat, b)] }) else s
def DS.writeE (s : DS) (i : Int) : Int := if s.inB i then s.passE else 1

/-! ### reading -/
def lastOf' (lo : List (Nat × Blk)) (i : Nat) (b : Blk) : Blk := lo.foldl (fun b x => if x.1 = i then x.2 else b) b
def DS.blk (s : DS) (i : Nat) : Blk := s.bl[i]?.getD zblk
def DS.read (s : DS) (i : Int) : Blk := if s.inB i then (if s.down then zblk else lastOf' s.lo i.toNat (s.blk i.toNat)) else zblk
def DS.readE (s : DS) (i : Int) : Int := if s.inB i then (if s.down then 12 else 0) else 1
theorem lastOf_append (a b : List (Nat × Blk)) (i : Nat) (z : Blk) : lastOf' (a ++ b) i z = lastOf' b i (lastOf' a i z) := by simp [lastOf']
theorem lastOf_hit {b : List (Nat × Blk)} {i k : Nat} {v : Blk} (a : List (Nat × Blk)) (z : Blk) (h : ∀ x ∈ b, x.1 ≠ i) : lastOf' (a ++ (i, v) :: b) i z = v := by
  rw [lastOf_append]
  show lastOf' b i (if i = i then v else _) = v
  rw [if_pos rfl]
  induction b with
  | nil => rfl
  | cons y l ih =>
    show lastOf' l i (if y.1 = i then y.2 else v) = v
    rw [if_neg (h y (by simp))]
    exact ih fun x hx => h x (by simp [hx])
theorem lastOf_none {b : List (Nat × Blk)} {i : Nat} (z : Blk) (h : ∀ x ∈ b, x.1 ≠ i) : lastOf' b i z = z := by
  induction b with
  | nil => rfl
  | cons y l ih =>
    show lastOf' l i (if y.1 = i then y.2 else z) = z
    rw [if_neg (h y (by simp))]
    exact ih fun x hx => h x (by simp [hx])
theorem lastOf_len {lo : List (Nat × Blk)} {i : Nat} {z : Blk} (h : ∀ x ∈ lo, x.2.length = 128) (hz : z.length = 128) : (lastOf' lo i z).length = 128 := by
  induction lo generalizing z with
  | nil => exact hz
  | cons y l ih =>
    show (lastOf' l i (if y.1 = i then y.2 else z)).length = 128
    refine ih (fun x hx => h x (by simp [hx])) ?_
    split
    · exact h y (by simp)
    · exact hz
theorem DS.Ok.blk {s : DS} (h : s.Ok) (i : Nat) : (s.blk i).length = 128 := by
  unfold DS.blk
  rcases hb : s.bl[i]? with _ | b
  · simp [zblk]
  · exact h.bl b (List.mem_of_getElem? hb)
theorem DS.Ok.read {s : DS} (h : s.Ok) (i : Int) : (s.read i).length = 128 := by
  unfold DS.read
  split
  · split
    · simp [zblk]
    · exact lastOf_len (fun x hx => (h.lo x hx).2) (h.blk _)
  · simp [zblk]

/-! ### syncing, crashing -/
def putAll (bl : List Blk) (lo : List (Nat × Blk)) : List Blk := lo.foldl (fun bl x => bl.set x.1 x.2) bl
theorem putAll_append (bl : List Blk) (a b : List (Nat × Blk)) : putAll bl (a ++ b) = putAll (putAll bl a) b := by simp [putAll]
theorem putAll_len (bl : List Blk) (lo : List (Nat × Blk)) : (putAll bl lo).length = bl.length := by
  induction lo generalizing bl with
  | nil => rfl
  | cons y l ih => show (putAll (bl.set y.1 y.2) l).length = _; rw [ih, List.length_set]
def DS.sync (s : DS) : DS := if s.stops then s.cut else { s.gone with bl := putAll s.bl s.lo, lo := [] }
def DS.fuseTo (s : DS) (n : Int) : DS := { s with fuse := max n (-1) }
/-- the first n bytes of b, the rest of a -/
def halfOf (n : Nat) (b a : Blk) : Blk := b.take n ++ a.drop n
def keeps (keep : List UInt8) (k : Nat) : Bool := match keep[k]? with | some x => x.toNat % 2 == 1 | none => false
def sizeOf' (torn : Int) (k : Nat) : Nat := if (k : Int) = torn then 64 else 128
def crash1 (keep : List UInt8) (torn : Int) (k : Nat) (bl : List Blk) (x : Nat × Blk) : List Blk :=
  if keeps keep k then bl.set x.1 (halfOf (sizeOf' torn k) x.2 (bl[x.1]?.getD zblk)) else bl
def crashTo (keep : List UInt8) (torn : Int) (lo : List (Nat × Blk)) (bl : List Blk) : Nat → List Blk
  | 0 => bl
  | k + 1 => match lo[k]? with
    | some x => crash1 keep torn k (crashTo keep torn lo bl k) x
    | none => crashTo keep torn lo bl k
theorem crashTo_len (keep : List UInt8) (torn : Int) (lo : List (Nat × Blk)) (bl : List Blk) (k : Nat) : (crashTo keep torn lo bl k).length = bl.length := by
  induction k with
  | zero => rfl
  | succ k ih =>
    unfold crashTo
    split
    · unfold crash1; split
      · rw [List.length_set]; exact ih
      · exact ih
    · exact ih
theorem halfOf_len {n : Nat} {b a : Blk} (hn : n ≤ 128) (hb : b.length = 128) (ha : a.length = 128) : (halfOf n b a).length = 128 := by
  simp [halfOf, ha, hb]; omega
theorem sizeOf_le (torn : Int) (k : Nat) : sizeOf' torn k ≤ 128 := by unfold sizeOf'; split <;> omega
theorem crashTo_ok {keep : List UInt8} {torn : Int} {lo : List (Nat × Blk)} {bl : List Blk} (hb : ∀ b ∈ bl, b.length = 128) (hl : ∀ x ∈ lo, x.2.length = 128) (k : Nat) :
    ∀ b ∈ crashTo keep torn lo bl k, b.length = 128 := by
  induction k with
  | zero => exact hb
  | succ k ih =>
    unfold crashTo
    split
    · rename_i x hx
      unfold crash1; split
      · intro b hm
        rcases List.mem_or_eq_of_mem_set hm with h | rfl
        · exact ih b h
        · refine halfOf_len (sizeOf_le _ _) (hl x (List.mem_of_getElem? hx)) ?_
          rcases hg : (crashTo keep torn lo bl k)[x.1]? with _ | c
          · simp [zblk]
          · exact ih c (List.mem_of_getElem? hg)
      · exact ih
    · exact ih
def DS.crash (s : DS) (keep : List UInt8) (torn : Int) : DS := ⟨crashTo keep torn s.lo s.bl s.lo.length, [], -1, s.done, false⟩

/-! ### all of them keep the disk in order -/
theorem DS.Ok.cut {s : DS} (h : s.Ok) : s.cut.Ok := ⟨h.bl, h.lo, h.n16, h.n128, h.f63⟩
theorem DS.gone_f63 {s : DS} (h : s.Ok) : -9223372036854775808 ≤ s.gone.fuse ∧ s.gone.fuse ≤ 9223372036854775807 := by
  have := h.f63
  unfold DS.gone
  dsimp only
  split <;> omega
theorem DS.Ok.gone {s : DS} (h : s.Ok) : s.gone.Ok := ⟨h.bl, h.lo, h.n16, h.n128, DS.gone_f63 h⟩
theorem DS.Ok.fuseTo {s : DS} (h : s.Ok) {n : Int} (hn : n ≤ 9223372036854775807) : (s.fuseTo n).Ok := ⟨h.bl, h.lo, h.n16, h.n128, by show _ ≤ max n (-1) ∧ max n (-1) ≤ _; omega⟩
theorem DS.Ok.pass {s : DS} (h : s.Ok) : s.pass.Ok := by
  unfold DS.pass; split
  · exact h.cut
  · exact h.gone
theorem DS.inB_iff {s : DS} {i : Int} : s.inB i = true ↔ 0 ≤ i ∧ i < s.bl.length := by simp [DS.inB]
theorem DS.Ok.write {s : DS} (h : s.Ok) {i : Int} {b : Blk} (hb : b.length = 128) : (s.write i b).Ok := by
  unfold DS.write
  split
  · rename_i hi
    split
    · exact h.cut
    · refine ⟨h.bl, fun x hx => ?_, h.n16, h.n128, DS.gone_f63 h⟩
      rcases List.mem_append.1 hx with h1 | h1
      · exact h.lo x h1
      · obtain rfl := List.mem_singleton.1 h1
        have := DS.inB_iff.1 hi
        exact ⟨by show i.toNat < s.bl.length; omega, hb⟩
  · exact h
theorem putAll_ok {bl : List Blk} {lo : List (Nat × Blk)} (hb : ∀ b ∈ bl, b.length = 128) (hl : ∀ x ∈ lo, x.2.length = 128) : ∀ b ∈ putAll bl lo, b.length = 128 := by
  induction lo generalizing bl with
  | nil => exact hb
  | cons y l ih =>
    refine ih (bl := bl.set y.1 y.2) (fun b hm => ?_) (fun x hx => hl x (by simp [hx]))
    rcases List.mem_or_eq_of_mem_set hm with h | rfl
    · exact hb b h
    · exact hl y (by simp)
theorem DS.Ok.sync {s : DS} (h : s.Ok) : s.sync.Ok := by
  unfold DS.sync
  split
  · exact h.cut
  · exact ⟨putAll_ok h.bl fun x hx => (h.lo x hx).2, fun x hx => (by cases hx), by show 16 ≤ (putAll _ _).length; rw [putAll_len]; exact h.n16, by show (putAll _ _).length ≤ 128; rw [putAll_len]; exact h.n128, DS.gone_f63 h⟩
theorem DS.Ok.crash {s : DS} (h : s.Ok) (keep : List UInt8) (torn : Int) : (s.crash keep torn).Ok :=
  ⟨crashTo_ok h.bl (fun x hx => (h.lo x hx).2) _, fun x hx => (by cases hx), by show 16 ≤ (crashTo _ _ _ _ _).length; rw [crashTo_len]; exact h.n16, by show (crashTo _ _ _ _ _).length ≤ 128; rw [crashTo_len]; exact h.n128, by simp [DS.crash]⟩
end Go.Proofs.Ytnkdbkgihemjnaa
