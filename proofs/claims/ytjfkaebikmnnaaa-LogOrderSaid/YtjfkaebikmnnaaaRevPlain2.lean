/- Logs in plain Lean: numbers that rise, bytes laid entry by entry. -/
import Derived.Test.YtjfkaebikmnnaaaRevPlain
namespace Go.Proofs.Ytjfkaebikmnnaaa
set_option linter.unusedSimpArgs false
set_option linter.unusedVariables false

def numAt (l : List LE) (k : Nat) : Int := (l[k]?.map LE.num).getD 0
def ahd (a : Int) (l : List LE) (k : Nat) : Int := if k = 0 then a else numAt l (k - 1)
theorem rise_iff (next : Int) : ∀ (l : List LE) (a : Int), rise a next l = true ↔ ∀ k, k < l.length → ahd a l k < numAt l k ∧ numAt l k < next
  | [], a => by simp [rise]
  | x :: l, a => by
    rw [rise, Bool.and_eq_true, decide_eq_true_eq, rise_iff next l x.num]
    constructor
    · rintro ⟨h, ih⟩ k hk
      match k with
      | 0 => exact h
      | k + 1 =>
        have := ih k (by simpa using hk)
        have e1 : numAt (x :: l) (k + 1) = numAt l k := by unfold numAt; rw [List.getElem?_cons_succ]
        have e2 : ahd a (x :: l) (k + 1) = ahd x.num l k := by
          unfold ahd
          rw [if_neg (by omega), Nat.add_sub_cancel]
          match k with
          | 0 => rfl
          | k + 1 => rw [if_neg (by omega), Nat.add_sub_cancel]; unfold numAt; rw [List.getElem?_cons_succ]
        rw [e1, e2]
        exact this
    · intro h
      refine ⟨h 0 (by simp), fun k hk => ?_⟩
      have := h (k + 1) (by simpa using hk)
      have e1 : numAt (x :: l) (k + 1) = numAt l k := by unfold numAt; rw [List.getElem?_cons_succ]
      have e2 : ahd a (x :: l) (k + 1) = ahd x.num l k := by
        unfold ahd
        rw [if_neg (by omega), Nat.add_sub_cancel]
        match k with
        | 0 => rfl
        | k + 1 => rw [if_neg (by omega), Nat.add_sub_cancel]; unfold numAt; rw [List.getElem?_cons_succ]
      rw [e1, e2] at this
      exact this
theorem numAt_of {l : List LE} {k : Nat} {x : LE} (h : l[k]? = some x) : numAt l k = x.num := by unfold numAt; rw [h]; rfl
/-- what has been laid when k entries have been gone through -/
def preL (next : Int) (l : List LE) (k : Nat) : List UInt8 := headL next l.length ++ (l.take k).flatMap LE.bytes
theorem preL_zero (next : Int) (l : List LE) : preL next l 0 = headL next l.length := by simp [preL]
theorem preL_succ {next : Int} {l : List LE} {k : Nat} {x : LE} (h : l[k]? = some x) : preL next l (k + 1) = preL next l k ++ [u8 (x.num / 256), u8 x.num] ++ x.key := by
  obtain ⟨hk, rfl⟩ := List.getElem?_eq_some_iff.1 h
  unfold preL
  rw [List.take_succ_eq_append_getElem hk, List.flatMap_append]
  simp [LE.bytes]
theorem preL_all (next : Int) (l : List LE) : preL next l l.length = bytesL next l := by unfold preL bytesL; rw [List.take_length]
theorem LE.Ok.bytes {x : LE} (h : x.Ok) : x.bytes.length = 34 := by simp [LE.bytes, h.key]
theorem flat_len {l : List LE} (h : ∀ x ∈ l, x.Ok) : (l.flatMap LE.bytes).length = l.length * 34 := by
  induction l with
  | nil => rfl
  | cons y l ih => rw [List.flatMap_cons, List.length_append, ih (fun x hx => h x (by simp [hx])), (h y (by simp)).bytes, List.length_cons]; omega
theorem preL_len {next : Int} {l : List LE} (h : ∀ x ∈ l, x.Ok) {k : Nat} (hk : k ≤ l.length) : (preL next l k).length = 3 + k * 34 := by
  unfold preL
  rw [List.length_append, flat_len (fun x hx => h x (List.mem_of_mem_take hx)), List.length_take, Nat.min_eq_left hk]
  rfl
theorem bytesL_len {next : Int} {l : List LE} (h : ∀ x ∈ l, x.Ok) : (bytesL next l).length = 3 + l.length * 34 := by rw [← preL_all, preL_len h (Nat.le_refl _)]
end Go.Proofs.Ytjfkaebikmnnaaa
