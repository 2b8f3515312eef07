/- An object in plain Lean: its blocks, the object of blocks; no program in sight. -/
import Derived.Test.YthmjkgpfnpdddaaShaPlain
namespace Go.Proofs.Ythmjkgpfnpdddaa
set_option linter.unusedSimpArgs false
set_option linter.unusedVariables false

abbrev Blk := List UInt8
def zblk : Blk := List.replicate 128 0
theorem zblk_len : zblk.length = 128 := by simp [zblk]
def pad (l : List UInt8) : Blk := l ++ List.replicate (128 - l.length) 0
theorem pad_len {l : List UInt8} (h : l.length ≤ 128) : (pad l).length = 128 := by simp [pad]; omega
def chk (l : List UInt8) : List UInt8 := (sha l).take 4
theorem chk_len (l : List UInt8) : (chk l).length = 4 := by unfold chk; rw [List.length_take, sha_len]; rfl
def at8 (b : List UInt8) (i : Nat) : UInt8 := b[i]?.getD 0
def n16 (b : List UInt8) (i : Nat) : Nat := (at8 b i).toNat * 256 + (at8 b (i + 1)).toNat
theorem n16_lt (b : List UInt8) (i : Nat) : n16 b i < 65536 := by
  have h1 := (at8 b i).toNat_lt
  have h2 := (at8 b (i + 1)).toNat_lt
  unfold n16; omega
theorem at8_app {a b : List UInt8} {i : Nat} (h : i < a.length) : at8 (a ++ b) i = at8 a i := by unfold at8; rw [List.getElem?_append_left h]
/-- cells of blocks -/
def bsv (l : List Blk) : List Value := l.flatMap bvs
theorem bsv_flat (l : List Blk) : bsv l = bvs l.flatten := by
  unfold bsv bvs
  induction l with
  | nil => rfl
  | cons x l ih => rw [List.flatMap_cons, ih, List.flatten_cons, List.map_append]
def All128 (l : List Blk) : Prop := ∀ x ∈ l, x.length = 128
theorem flat_len : ∀ {l : List Blk}, All128 l → l.flatten.length = l.length * 128
  | [], _ => rfl
  | x :: l, h => by rw [List.flatten_cons, List.length_append, h x (by simp), flat_len (fun y hy => h y (by simp [hy])), List.length_cons]; omega

/-! ### bytes as blocks -/
def cutN (n : Nat) : Nat := (n + 127) / 128
def blkAt (l : List UInt8) (k : Nat) : Blk := pad ((l.drop (128 * k)).take 128)
def cutB (l : List UInt8) : List Blk := (List.range (cutN l.length)).map (blkAt l)
theorem blkAt_len (l : List UInt8) (k : Nat) : (blkAt l k).length = 128 := pad_len (by rw [List.length_take]; omega)
theorem cutB_len (l : List UInt8) : (cutB l).length = cutN l.length := by simp [cutB]
theorem cutB_all (l : List UInt8) : All128 (cutB l) := fun x hx => by
  obtain ⟨k, -, rfl⟩ := List.mem_map.1 hx
  exact blkAt_len l k
theorem cut_flat (l : List UInt8) : ∀ k, 128 * k ≤ l.length + 127 → ((List.range k).map (blkAt l)).flatten = l.take (128 * k) ++ List.replicate (128 * k - l.length) 0
  | 0, _ => by simp
  | k + 1, h => by
    rw [List.range_succ, List.map_append, List.flatten_append, cut_flat l k (by omega)]
    simp only [List.map_cons, List.map_nil, List.flatten_cons, List.flatten_nil, List.append_nil]
    rw [show 128 * k - l.length = 0 by omega, List.replicate_zero, List.append_nil]
    unfold blkAt pad
    rw [← List.append_assoc]
    congr 1
    · rw [Nat.mul_add, Nat.mul_one, List.take_add]
    · congr 1
      rw [List.length_take, List.length_drop]
      omega
theorem cutB_flat (l : List UInt8) : (cutB l).flatten = l ++ List.replicate (128 * cutN l.length - l.length) 0 := by
  unfold cutB
  rw [cut_flat l _ (by unfold cutN; omega), List.take_of_length_le (by unfold cutN; omega)]

/-! ### objects -/
def blocksN (n : Int) : Int := if n < 0 ∨ 1000 < n then 0 else (n + 6) / 128 + 1
def obHead (kind : Int) (n : Nat) : List UInt8 := [u8 kind, u8 ((n : Int) / 256), u8 (n : Int)]
def obText (kind : Int) (body : List UInt8) : List UInt8 := obHead kind body.length ++ body
theorem obText_len (kind : Int) (body : List UInt8) : (obText kind body).length = 3 + body.length := by simp [obText, obHead]; omega
def obOk (kind : Int) (n : Nat) : Bool := decide (1 ≤ kind ∧ kind ≤ 6 ∧ n ≤ 1000)
theorem obOk_iff {kind : Int} {n : Nat} : obOk kind n = true ↔ 1 ≤ kind ∧ kind ≤ 6 ∧ n ≤ 1000 := by unfold obOk; simp
def obAll (kind : Int) (body : List UInt8) : List UInt8 := obText kind body ++ chk (obText kind body)
theorem obAll_len (kind : Int) (body : List UInt8) : (obAll kind body).length = body.length + 7 := by unfold obAll; rw [List.length_append, obText_len, chk_len]; omega
def frameB (kind : Int) (body : List UInt8) : List Blk := if obOk kind body.length then cutB (obAll kind body) else []
def frameE (kind : Int) (n : Nat) : Int := if obOk kind n then 0 else 1
theorem frame_all (kind : Int) (body : List UInt8) : All128 (frameB kind body) := by
  unfold frameB
  split
  · exact cutB_all _
  · intro x hx; cases hx
theorem cut_blocks {n : Nat} (h : n ≤ 1000) : ((cutN (n + 7) : Nat) : Int) = blocksN n := by
  unfold cutN blocksN
  rw [if_neg (by omega)]
  omega
theorem frame_len {kind : Int} {body : List UInt8} (h : obOk kind body.length = true) : ((frameB kind body).length : Int) = blocksN body.length := by
  unfold frameB
  rw [if_pos h, cutB_len, obAll_len, cut_blocks (obOk_iff.1 h).2.2]
theorem blocks_rng (n : Int) : 0 ≤ blocksN n ∧ blocksN n ≤ 8 := by
  unfold blocksN
  split <;> omega
def obN (l : List Blk) : Nat := n16 l.flatten 1
def obKind (l : List Blk) : Int := ((at8 l.flatten 0).toNat : Nat)
def obBody (l : List Blk) : List UInt8 := (l.flatten.drop 3).take (obN l)
def isO (l : List Blk) : Bool := decide (l ≠ [] ∧ 3 + obN l ≤ l.flatten.length) && obOk (obKind l) (obN l) && (frameB (obKind l) (obBody l) == l)
def kindOf (l : List Blk) : Int := if isO l then obKind l else 0
def bodyOf (l : List Blk) : List UInt8 := if isO l then obBody l else []
def bodyE (l : List Blk) : Int := if isO l then 0 else 11
theorem obBody_len {l : List Blk} (h : 3 + obN l ≤ l.flatten.length) : (obBody l).length = obN l := by unfold obBody; rw [List.length_take, List.length_drop]; omega
theorem isO_iff {l : List Blk} : isO l = true ↔ (l ≠ [] ∧ 3 + obN l ≤ l.flatten.length) ∧ obOk (obKind l) (obN l) = true ∧ frameB (obKind l) (obBody l) = l := by
  unfold isO
  rw [Bool.and_eq_true, Bool.and_eq_true, decide_eq_true_eq, beq_iff_eq, and_assoc]
/-- the way the program asks: as many blocks as said -/
theorem isO_blocks {l : List Blk} (h : isO l = true) : (l.length : Int) = blocksN (obN l) := by
  obtain ⟨⟨_, h1⟩, h2, h3⟩ := isO_iff.1 h
  have hl := obBody_len h1
  rw [← hl] at h2
  have := frame_len h2
  rw [h3, hl] at this
  exact this
theorem room_of {l : List Blk} (ha : All128 l) (h : (l.length : Int) = blocksN (obN l)) (h0 : l ≠ []) : obN l ≤ 1000 ∧ 3 + obN l ≤ l.flatten.length := by
  have : 0 < l.length := List.length_pos_iff.2 h0
  rw [flat_len ha]
  unfold blocksN at h
  split at h <;> omega
theorem isO_of {l : List Blk} (ha : All128 l) (h : (l.length : Int) = blocksN (obN l)) (h0 : l ≠ []) : isO l = (obOk (obKind l) (obN l) && (frameB (obKind l) (obBody l) == l)) := by
  unfold isO
  rw [decide_eq_true ⟨h0, (room_of ha h h0).2⟩, Bool.true_and]
theorem not_isO {l : List Blk} (h : (l.length : Int) ≠ blocksN (obN l)) : isO l = false := by
  cases hi : isO l
  · rfl
  · exact absurd (isO_blocks hi) h
theorem u8_one {k : Int} (h : 1 ≤ k) (h6 : k ≤ 6) : (((u8 k).toNat : Nat) : Int) = k := by have := u8_toNat k; omega
theorem frame_flat {kind : Int} {body : List UInt8} (h : obOk kind body.length = true) : (frameB kind body).flatten = obAll kind body ++ List.replicate (128 * cutN (body.length + 7) - (body.length + 7)) 0 := by
  unfold frameB
  rw [if_pos h, cutB_flat, obAll_len]
theorem frame_back {kind : Int} {body : List UInt8} (h : obOk kind body.length = true) : isO (frameB kind body) = true ∧ obKind (frameB kind body) = kind ∧ obN (frameB kind body) = body.length ∧ obBody (frameB kind body) = body := by
  obtain ⟨h1, h2, h3⟩ := obOk_iff.1 h
  have hf := frame_flat h
  have hl := frame_len h
  have ek : obKind (frameB kind body) = kind := by
    unfold obKind
    rw [hf]
    exact u8_one h1 h2
  have en : obN (frameB kind body) = body.length := by
    unfold obN n16
    rw [hf]
    show (u8 ((body.length : Int) / 256)).toNat * 256 + (u8 (body.length : Int)).toNat = body.length
    have a := u8_toNat ((body.length : Int) / 256)
    have b := u8_toNat (body.length : Int)
    omega
  have eb : obBody (frameB kind body) = body := by
    unfold obBody
    rw [en, hf]
    unfold obAll obText obHead
    simp only [List.cons_append, List.nil_append, List.drop_succ_cons, List.drop_zero, List.append_assoc]
    rw [List.take_left]
  refine ⟨isO_iff.2 ⟨⟨?_, ?_⟩, by rw [ek, en]; exact h, by rw [ek, eb]⟩, ek, en, eb⟩
  · intro e
    rw [e] at hl
    have : blocksN (body.length : Int) ≠ 0 := by unfold blocksN; rw [if_neg (by omega)]; omega
    exact this hl.symm
  · rw [en, hf, List.length_append, obAll_len]; omega
/-- more or fewer blocks are none's -/
theorem isO_other {l m : List Blk} (h : isO l = true) (hn : m ≠ [] → obN m = obN l) (hl : m.length ≠ l.length) : isO m = false := by
  by_cases h0 : m = []
  · subst h0; rfl
  · apply not_isO
    rw [hn h0]
    have := isO_blocks h
    omega
theorem obN_first {x : Blk} {l m : List Blk} (hx : x.length = 128) : obN (x :: l) = obN (x :: m) := by
  unfold obN n16
  rw [List.flatten_cons, List.flatten_cons, at8_app (by omega), at8_app (by omega), at8_app (by omega), at8_app (by omega)]
theorem isO_fewer {l : List Blk} (ha : All128 l) (h : isO l = true) : isO (l.take (l.length - 1)) = false := by
  have h0 := (isO_iff.1 h).1.1
  match l, h0 with
  | x :: l, _ =>
    refine isO_other h (fun h1 => ?_) (by rw [List.length_take, List.length_cons]; omega)
    match l, h1 with
    | y :: l, _ =>
      simp only [List.length_cons, Nat.add_sub_cancel, List.take_succ_cons]
      exact obN_first (ha x (by simp))
    | [], h1 => exact absurd rfl h1
theorem isO_more {l : List Blk} (ha : All128 l) (h : isO l = true) (z : Blk) : isO (l ++ [z]) = false := by
  have h0 := (isO_iff.1 h).1.1
  match l, h0 with
  | x :: l, _ => exact isO_other h (fun _ => by rw [List.cons_append]; exact obN_first (ha x (by simp))) (by simp)
/-- two kinds' frames differ -/
theorem frame_kinds {a b : Int} {body : List UInt8} (h : obOk a body.length = true) (k : obOk b body.length = true) : frameB a body = frameB b body ↔ a = b := by
  constructor
  · intro e
    rw [← (frame_back h).2.1, e, (frame_back k).2.1]
  · rintro rfl; rfl
end Go.Proofs.Ythmjkgpfnpdddaa
