/- codexref09.Signs in plain Lean: a text is signs where it is valid. -/
import Derived.Test.YtiffcdeagckgmaaDoorBase
import Derived.Lib.ValidLaws
import Derived.Lib.TrimUEq
namespace Go.Proofs.YtiffcdeagckgmaaDoor
set_option linter.unusedSimpArgs false
set_option linter.unusedVariables false
open Go.Lib

/-- the bytes of a code point -/
def refB (v : Int) : List UInt8 :=
  if v < 0 ∨ 1114111 < v ∨ (55296 ≤ v ∧ v ≤ 57343) then [] else if v < 128 then [u8 v] else if v < 2048 then [u8 (192 + v / 64), u8 (128 + v % 64)]
  else if v < 65536 then [u8 (224 + v / 4096), u8 (128 + v / 64 % 64), u8 (128 + v % 64)] else [u8 (240 + v / 262144), u8 (128 + v / 4096 % 64), u8 (128 + v / 64 % 64), u8 (128 + v % 64)]
/-- how many bytes the first byte promises -/
def sgN (b : Nat) : Nat := if 240 ≤ b then 4 else if 224 ≤ b then 3 else if 192 ≤ b then 2 else 1
def sg0 (b : Nat) : Nat := if 240 ≤ b then b - 240 else if 224 ≤ b then b - 224 else if 192 ≤ b then b - 192 else b
/-- the value after k more bytes -/
def sgV (l : List UInt8) : Nat → Nat
  | 0 => sg0 (l.getD 0 0).toNat
  | k + 1 => sgV l k * 64 + (l.getD (k + 1) 0).toNat % 64
theorem u8_eq {z : Int} {b : UInt8} (h0 : 0 ≤ z) (h1 : z < 256) : (u8 z = b) = (z = b.toNat) := by
  have h := u8_toNat z
  rw [Int.emod_eq_of_lt h0 h1] at h
  apply propext
  constructor
  · intro e; rw [← e, h]
  · intro e; exact UInt8.toNat_inj.1 (by omega)
theorem sg1 (b0 : UInt8) (h : b0.toNat < 192) : (refB (b0.toNat : Int) = [b0]) ↔ b0.toNat < 128 := by
  unfold refB
  rw [if_neg (by omega)]
  split
  · simp only [List.cons.injEq, and_true]
    rw [u8_eq (by omega) (by omega)]
    omega
  · rw [if_pos (by omega)]
    simp
    omega
theorem sg2 (b0 b1 : UInt8) (h : 192 ≤ b0.toNat) (h2 : b0.toNat < 224) : (refB (((b0.toNat - 192) * 64 + b1.toNat % 64 : Nat) : Int) = [b0, b1]) ↔ (b1.toNat / 64 = 2 ∧ 128 ≤ (b0.toNat - 192) * 64 + b1.toNat % 64) := by
  have hb := b1.toNat_lt
  obtain ⟨v, hv⟩ : ∃ v, (b0.toNat - 192) * 64 + b1.toNat % 64 = v := ⟨_, rfl⟩
  rw [hv]
  unfold refB
  rw [if_neg (by omega)]
  split
  · simp
    omega
  · rw [if_pos (by omega)]
    simp only [List.cons.injEq, and_true]
    rw [u8_eq (by omega) (by omega), u8_eq (by omega) (by omega)]
    omega
theorem sg3 (b0 b1 b2 : UInt8) (h : 224 ≤ b0.toNat) (h2 : b0.toNat < 240) : (refB ((((b0.toNat - 224) * 64 + b1.toNat % 64) * 64 + b2.toNat % 64 : Nat) : Int) = [b0, b1, b2]) ↔
    (b1.toNat / 64 = 2 ∧ b2.toNat / 64 = 2 ∧ 2048 ≤ ((b0.toNat - 224) * 64 + b1.toNat % 64) * 64 + b2.toNat % 64 ∧ (((b0.toNat - 224) * 64 + b1.toNat % 64) * 64 + b2.toNat % 64 < 55296 ∨ 57344 ≤ ((b0.toNat - 224) * 64 + b1.toNat % 64) * 64 + b2.toNat % 64)) := by
  have hb := b1.toNat_lt
  have hc := b2.toNat_lt
  obtain ⟨v, hv⟩ : ∃ v, ((b0.toNat - 224) * 64 + b1.toNat % 64) * 64 + b2.toNat % 64 = v := ⟨_, rfl⟩
  rw [hv]
  unfold refB
  by_cases h1 : 55296 ≤ v ∧ v ≤ 57343
  · rw [if_pos (by omega)]
    simp
    omega
  · rw [if_neg (by omega)]
    split
    · simp
      omega
    · split
      · simp
        omega
      · rw [if_pos (by omega)]
        simp only [List.cons.injEq, and_true]
        rw [u8_eq (by omega) (by omega), u8_eq (by omega) (by omega), u8_eq (by omega) (by omega)]
        omega
theorem sg4 (b0 b1 b2 b3 : UInt8) (h : 240 ≤ b0.toNat) : (refB (((((b0.toNat - 240) * 64 + b1.toNat % 64) * 64 + b2.toNat % 64) * 64 + b3.toNat % 64 : Nat) : Int) = [b0, b1, b2, b3]) ↔
    (b0.toNat < 248 ∧ b1.toNat / 64 = 2 ∧ b2.toNat / 64 = 2 ∧ b3.toNat / 64 = 2 ∧ 65536 ≤ (((b0.toNat - 240) * 64 + b1.toNat % 64) * 64 + b2.toNat % 64) * 64 + b3.toNat % 64 ∧ (((b0.toNat - 240) * 64 + b1.toNat % 64) * 64 + b2.toNat % 64) * 64 + b3.toNat % 64 ≤ 1114111) := by
  have ha := b0.toNat_lt
  have hb := b1.toNat_lt
  have hc := b2.toNat_lt
  have hd := b3.toNat_lt
  obtain ⟨v, hv⟩ : ∃ v, (((b0.toNat - 240) * 64 + b1.toNat % 64) * 64 + b2.toNat % 64) * 64 + b3.toNat % 64 = v := ⟨_, rfl⟩
  rw [hv]
  unfold refB
  by_cases h1 : 1114111 < v ∨ (55296 ≤ v ∧ v ≤ 57343)
  · rw [if_pos (by omega)]
    simp
    omega
  · rw [if_neg (by omega)]
    split
    · simp
      omega
    · split
      · simp
        omega
      · split
        · simp
          omega
        · simp only [List.cons.injEq, and_true]
          rw [u8_eq (by omega) (by omega), u8_eq (by omega) (by omega), u8_eq (by omega) (by omega), u8_eq (by omega) (by omega)]
          omega
theorem dn1 {n b0 b1 b2 b3 : Nat} (h : b0 < 192) : decodeN n b0 b1 b2 b3 = if b0 < 128 then (b0, 1) else (65533, 1) := by
  unfold decodeN
  repeat' split
  all_goals first | (exfalso; omega) | exact congrArg (fun z => (z, 2)) (by omega) | exact congrArg (fun z => (z, 3)) (by omega) | exact congrArg (fun z => (z, 4)) (by omega) | rfl
theorem dn2 {n b0 b1 b2 b3 : Nat} (h : 192 ≤ b0) (h2 : b0 < 224) : decodeN n b0 b1 b2 b3 = if 1 < n ∧ b1 / 64 = 2 ∧ 128 ≤ (b0 - 192) * 64 + b1 % 64 then ((b0 - 192) * 64 + b1 % 64, 2) else (65533, 1) := by
  unfold decodeN
  repeat' split
  all_goals first | (exfalso; omega) | exact congrArg (fun z => (z, 2)) (by omega) | exact congrArg (fun z => (z, 3)) (by omega) | exact congrArg (fun z => (z, 4)) (by omega) | rfl
theorem dn3 {n b0 b1 b2 b3 : Nat} (h : 224 ≤ b0) (h2 : b0 < 240) (h3 : b1 < 256) (h4 : b2 < 256) : decodeN n b0 b1 b2 b3 = if 2 < n ∧ b1 / 64 = 2 ∧ b2 / 64 = 2 ∧ 2048 ≤ ((b0 - 224) * 64 + b1 % 64) * 64 + b2 % 64 ∧ (((b0 - 224) * 64 + b1 % 64) * 64 + b2 % 64 < 55296 ∨ 57344 ≤ ((b0 - 224) * 64 + b1 % 64) * 64 + b2 % 64) then (((b0 - 224) * 64 + b1 % 64) * 64 + b2 % 64, 3) else (65533, 1) := by
  unfold decodeN
  repeat' split
  all_goals first | (exfalso; omega) | exact congrArg (fun z => (z, 2)) (by omega) | exact congrArg (fun z => (z, 3)) (by omega) | exact congrArg (fun z => (z, 4)) (by omega) | rfl
theorem dn4 {n b0 b1 b2 b3 : Nat} (h : 240 ≤ b0) (h2 : b0 < 256) (h3 : b1 < 256) (h4 : b2 < 256) (h5 : b3 < 256) : decodeN n b0 b1 b2 b3 = if 3 < n ∧ b0 < 248 ∧ b1 / 64 = 2 ∧ b2 / 64 = 2 ∧ b3 / 64 = 2 ∧ 65536 ≤ (((b0 - 240) * 64 + b1 % 64) * 64 + b2 % 64) * 64 + b3 % 64 ∧ (((b0 - 240) * 64 + b1 % 64) * 64 + b2 % 64) * 64 + b3 % 64 ≤ 1114111 then ((((b0 - 240) * 64 + b1 % 64) * 64 + b2 % 64) * 64 + b3 % 64, 4) else (65533, 1) := by
  unfold decodeN
  repeat' split
  all_goals first | (exfalso; omega) | exact congrArg (fun z => (z, 2)) (by omega) | exact congrArg (fun z => (z, 3)) (by omega) | exact congrArg (fun z => (z, 4)) (by omega) | rfl
/-- a step of Signs -/
theorem sg_step (b0 : UInt8) (t : List UInt8) : validD (b0 :: t) = if sgN b0.toNat ≤ (b0 :: t).length ∧ refB (sgV (b0 :: t) (sgN b0.toNat - 1) : Int) = (b0 :: t).take (sgN b0.toNat) then validD ((b0 :: t).drop (sgN b0.toNat)) else false := by
  rw [validD_step _ (by simp), decodeL_N]
  have ha := b0.toNat_lt
  have hb := ((b0 :: t).getD 1 0).toNat_lt
  have hc := ((b0 :: t).getD 2 0).toNat_lt
  have hd := ((b0 :: t).getD 3 0).toNat_lt
  have e0 : (b0 :: t).getD 0 0 = b0 := rfl
  rw [e0]
  by_cases c1 : b0.toNat < 192
  · have hn : sgN b0.toNat = 1 := by unfold sgN; rw [if_neg (by omega), if_neg (by omega), if_neg (by omega)]
    have hv : sgV (b0 :: t) 0 = b0.toNat := by show sg0 b0.toNat = _; unfold sg0; rw [if_neg (by omega), if_neg (by omega), if_neg (by omega)]
    rw [hn, dn1 c1, Nat.sub_self, hv]
    have h1 := sg1 b0 c1
    simp only [List.take_succ_cons, List.take_zero, h1]
    by_cases c2 : b0.toNat < 128
    · rw [if_pos c2, if_neg (by simp only; omega), if_pos ⟨by simp, c2⟩]
    · rw [if_neg c2, if_pos ⟨rfl, rfl⟩, if_neg (fun h => c2 h.2)]
  · by_cases c2 : b0.toNat < 224
    · have hn : sgN b0.toNat = 2 := by unfold sgN; rw [if_neg (by omega), if_neg (by omega), if_pos (by omega)]
      have hv0 : sgV (b0 :: t) 0 = b0.toNat - 192 := by show sg0 b0.toNat = _; unfold sg0; rw [if_neg (by omega), if_neg (by omega), if_pos (by omega)]
      rw [hn]
      show _ = if _ ∧ refB ((sgV (b0 :: t) 1 : Nat) : Int) = _ then _ else _
      have hv : sgV (b0 :: t) 1 = (b0.toNat - 192) * 64 + ((b0 :: t).getD 1 0).toNat % 64 := by show sgV (b0 :: t) 0 * 64 + _ = _; rw [hv0]
      rw [hv]
      match t with
      | [] => rw [(dn2 (n := [b0].length) (by omega) c2).trans (if_neg (fun h => absurd h.1 (by simp))), if_pos ⟨rfl, rfl⟩, if_neg (fun h => absurd h.1 (by simp))]
      | b1 :: t =>
        have e1 : (b0 :: b1 :: t).getD 1 0 = b1 := rfl
        rw [e1] at hb ⊢
        have h1 := sg2 b0 b1 (by omega) c2
        simp only [List.take_succ_cons, List.take_zero, h1]
        by_cases c3 : b1.toNat / 64 = 2 ∧ 128 ≤ (b0.toNat - 192) * 64 + b1.toNat % 64
        · rw [(dn2 (n := (b0 :: b1 :: t).length) (by omega) c2).trans (if_pos ⟨by simp, c3⟩), if_neg (fun h => absurd h.2 (by simp)), if_pos ⟨by simp, c3⟩]
        · rw [(dn2 (n := (b0 :: b1 :: t).length) (by omega) c2).trans (if_neg (fun h => c3 h.2)), if_pos ⟨rfl, rfl⟩, if_neg (fun h => c3 h.2)]
    · by_cases c3 : b0.toNat < 240
      · have hn : sgN b0.toNat = 3 := by unfold sgN; rw [if_neg (by omega), if_pos (by omega)]
        have hv0 : sgV (b0 :: t) 0 = b0.toNat - 224 := by show sg0 b0.toNat = _; unfold sg0; rw [if_neg (by omega), if_pos (by omega)]
        rw [hn]
        show _ = if _ ∧ refB ((sgV (b0 :: t) 2 : Nat) : Int) = _ then _ else _
        have hv : sgV (b0 :: t) 2 = ((b0.toNat - 224) * 64 + ((b0 :: t).getD 1 0).toNat % 64) * 64 + ((b0 :: t).getD 2 0).toNat % 64 := by show (sgV (b0 :: t) 0 * 64 + _) * 64 + _ = _; rw [hv0]
        rw [hv]
        match t with
        | [] => rw [(dn3 (n := [b0].length) (by omega) c3 hb hc).trans (if_neg (fun h => absurd h.1 (by simp))), if_pos ⟨rfl, rfl⟩, if_neg (fun h => absurd h.1 (by simp))]
        | [b1] => rw [(dn3 (n := [b0, b1].length) (by omega) c3 hb hc).trans (if_neg (fun h => absurd h.1 (by simp))), if_pos ⟨rfl, rfl⟩, if_neg (fun h => absurd h.1 (by simp))]
        | b1 :: b2 :: t =>
          have e1 : (b0 :: b1 :: b2 :: t).getD 1 0 = b1 := rfl
          have e2 : (b0 :: b1 :: b2 :: t).getD 2 0 = b2 := rfl
          rw [e1] at hb ⊢
          rw [e2] at hc ⊢
          have h1 := sg3 b0 b1 b2 (by omega) c3
          simp only [List.take_succ_cons, List.take_zero, h1]
          have hvv : ((b0.toNat - 224) * 64 + b1.toNat % 64) * 64 + b2.toNat % 64 = ((b0.toNat - 224) * 64 + b1.toNat % 64) * 64 + b2.toNat % 64 := rfl
          by_cases c4 : b1.toNat / 64 = 2 ∧ b2.toNat / 64 = 2 ∧ 2048 ≤ ((b0.toNat - 224) * 64 + b1.toNat % 64) * 64 + b2.toNat % 64 ∧ (((b0.toNat - 224) * 64 + b1.toNat % 64) * 64 + b2.toNat % 64 < 55296 ∨ 57344 ≤ ((b0.toNat - 224) * 64 + b1.toNat % 64) * 64 + b2.toNat % 64)
          · rw [(dn3 (n := (b0 :: b1 :: b2 :: t).length) (by omega) c3 hb hc).trans (if_pos ⟨by simp, c4⟩), if_neg (fun h => absurd h.2 (by simp)), if_pos ⟨by simp, c4⟩]
          · rw [(dn3 (n := (b0 :: b1 :: b2 :: t).length) (by omega) c3 hb hc).trans (if_neg (fun h => c4 h.2)), if_pos ⟨rfl, rfl⟩, if_neg (fun h => c4 h.2)]
      · have hn : sgN b0.toNat = 4 := by unfold sgN; rw [if_pos (by omega)]
        have hv0 : sgV (b0 :: t) 0 = b0.toNat - 240 := by show sg0 b0.toNat = _; unfold sg0; rw [if_pos (by omega)]
        rw [hn]
        show _ = if _ ∧ refB ((sgV (b0 :: t) 3 : Nat) : Int) = _ then _ else _
        have hv : sgV (b0 :: t) 3 = (((b0.toNat - 240) * 64 + ((b0 :: t).getD 1 0).toNat % 64) * 64 + ((b0 :: t).getD 2 0).toNat % 64) * 64 + ((b0 :: t).getD 3 0).toNat % 64 := by show ((sgV (b0 :: t) 0 * 64 + _) * 64 + _) * 64 + _ = _; rw [hv0]
        rw [hv]
        match t with
        | [] => rw [(dn4 (n := [b0].length) (by omega) ha hb hc hd).trans (if_neg (fun h => absurd h.1 (by simp))), if_pos ⟨rfl, rfl⟩, if_neg (fun h => absurd h.1 (by simp))]
        | [b1] => rw [(dn4 (n := [b0, b1].length) (by omega) ha hb hc hd).trans (if_neg (fun h => absurd h.1 (by simp))), if_pos ⟨rfl, rfl⟩, if_neg (fun h => absurd h.1 (by simp))]
        | [b1, b2] => rw [(dn4 (n := [b0, b1, b2].length) (by omega) ha hb hc hd).trans (if_neg (fun h => absurd h.1 (by simp))), if_pos ⟨rfl, rfl⟩, if_neg (fun h => absurd h.1 (by simp))]
        | b1 :: b2 :: b3 :: t =>
          have e1 : (b0 :: b1 :: b2 :: b3 :: t).getD 1 0 = b1 := rfl
          have e2 : (b0 :: b1 :: b2 :: b3 :: t).getD 2 0 = b2 := rfl
          have e3 : (b0 :: b1 :: b2 :: b3 :: t).getD 3 0 = b3 := rfl
          rw [e1] at hb ⊢
          rw [e2] at hc ⊢
          rw [e3] at hd ⊢
          have h1 := sg4 b0 b1 b2 b3 (by omega)
          simp only [List.take_succ_cons, List.take_zero, h1]
          have hvv : (((b0.toNat - 240) * 64 + b1.toNat % 64) * 64 + b2.toNat % 64) * 64 + b3.toNat % 64 = (((b0.toNat - 240) * 64 + b1.toNat % 64) * 64 + b2.toNat % 64) * 64 + b3.toNat % 64 := rfl
          by_cases c4 : b0.toNat < 248 ∧ b1.toNat / 64 = 2 ∧ b2.toNat / 64 = 2 ∧ b3.toNat / 64 = 2 ∧ 65536 ≤ (((b0.toNat - 240) * 64 + b1.toNat % 64) * 64 + b2.toNat % 64) * 64 + b3.toNat % 64 ∧ (((b0.toNat - 240) * 64 + b1.toNat % 64) * 64 + b2.toNat % 64) * 64 + b3.toNat % 64 ≤ 1114111
          · rw [(dn4 (n := (b0 :: b1 :: b2 :: b3 :: t).length) (by omega) ha hb hc hd).trans (if_pos ⟨by simp, c4⟩), if_neg (fun h => absurd h.2 (by simp)), if_pos ⟨by simp, c4⟩]
          · rw [(dn4 (n := (b0 :: b1 :: b2 :: b3 :: t).length) (by omega) ha hb hc hd).trans (if_neg (fun h => c4 h.2)), if_pos ⟨rfl, rfl⟩, if_neg (fun h => c4 h.2)]
end Go.Proofs.YtiffcdeagckgmaaDoor
