/- reading sheets' bytes, as the reference does, in plain Lean. -/
import Derived.Test.YtiffcdeagckgmaaDoorShBack
namespace Go.Proofs.YtiffcdeagckgmaaDoor
set_option linter.unusedSimpArgs false
set_option linter.unusedVariables false
open Go.RowKit

theorem takeD_ok {k : Nat} {z : List UInt8} {ok : Bool} (h : k ≤ z.length) : takeD k ⟨z, ok⟩ = (z.take k, ⟨z.drop k, ok⟩) := if_pos h
theorem takeD_no {k : Nat} {z : List UInt8} {ok : Bool} (h : z.length < k) : takeD k ⟨z, ok⟩ = (List.replicate k 0, ⟨z, false⟩) := if_neg (by simp only; omega)
theorem at8_take {z : List UInt8} {k i : Nat} (h : i < k) : at8 (z.take k) i = at8 z i := by simp [at8, List.getD, List.getElem?_take, h]
theorem at8_drop (b : List UInt8) (a i : Nat) : at8 (b.drop a) i = at8 b (a + i) := by simp [at8, List.getD, List.getElem?_drop]
theorem stepP_ok {z : List UInt8} {acc : List PC} (h3 : 3 ≤ z.length) (h4 : 3 + (at8 z 2).toNat ≤ z.length) : stepP (acc, ⟨z, true⟩) = (acc ++ [⟨((at8 z 0).toNat * 256 + (at8 z 1).toNat : Nat), ⟨((z.drop 3).take (at8 z 2).toNat).toArray⟩⟩], ⟨z.drop (3 + (at8 z 2).toNat), true⟩) := by
  unfold stepP
  rw [if_pos rfl, takeD_ok h3]
  simp only [at8_take (show 0 < 3 by omega), at8_take (show 1 < 3 by omega), at8_take (show 2 < 3 by omega)]
  rw [takeD_ok (by rw [List.length_drop]; omega), List.drop_drop]
theorem stepP_no {z : List UInt8} {acc : List PC} (h : ¬ (3 ≤ z.length ∧ 3 + (at8 z 2).toNat ≤ z.length)) : (stepP (acc, ⟨z, true⟩)).2.ok = false := by
  unfold stepP
  rw [if_pos rfl]
  by_cases h3 : 3 ≤ z.length
  · rw [takeD_ok h3]
    simp only [at8_take (show 2 < 3 by omega)]
    rw [takeD_no (by rw [List.length_drop]; omega)]
  · rw [takeD_no (by omega)]
    show (takeD (at8 [0, 0, 0] 2).toNat ⟨z, false⟩).2.ok = false
    rw [takeD_ok (by simp [at8])]
theorem lineD_ok {z : List UInt8} (h : 2 ≤ z.length) : lineD ⟨z, true⟩ = ((⟨((at8 z 0).toNat % 4 : Nat), (at8 z 0).toNat / 4 % 2 == 1, (at8 z 0).toNat / 8 % 2 == 1, (at8 z 0).toNat / 16 % 2 == 1, .slice none 0 0⟩, (rdPs (at8 z 1).toNat ([], ⟨z.drop 2, true⟩)).1), (rdPs (at8 z 1).toNat ([], ⟨z.drop 2, true⟩)).2) := by
  unfold lineD
  rw [takeD_ok h]
  simp only [at8_take (show 0 < 2 by omega), at8_take (show 1 < 2 by omega)]
theorem lineD_no {z : List UInt8} (h : z.length < 2) : (lineD ⟨z, true⟩).2.ok = false := by
  unfold lineD
  rw [takeD_no h]
  rfl
theorem decS_ok {b : List UInt8} (h : 2 ≤ b.length) : decN b = (at8 b 0).toNat ∧ decS b = rdLs (at8 b 1).toNat ([], ⟨b.drop 2, true⟩) := by
  unfold decN decS
  rw [takeD_ok h]
  simp only [at8_take (show 0 < 2 by omega), at8_take (show 1 < 2 by omega)]
  exact ⟨trivial, trivial⟩
theorem decS_short {b : List UInt8} (h : b.length < 2) : ¬ OkD b := fun hk => by have := okD_len hk; omega
theorem rdLs_bad {s : List (LN × List PC) × RS} {i n : Nat} {ls : List (LN × List PC)} {st : RS} (h1 : rdLs i s = (ls, st)) (h2 : st.ok = true) (h3 : (lineD st).2.ok = false) (hi : i < n) : (rdLs n s).2.ok = false := by
  have e := rdLs_more (s := s) (j := i) (by rw [h1]) (by rw [h1]) h2
  have e2 : (rdLs (i + 1) s).2.ok = false := by rw [e]; exact h3
  rw [rdLs_stop e2 n hi]
  exact e2
theorem rdPs_bad {s : List PC × RS} {i n : Nat} {ls : List PC} {st : RS} (h1 : rdPs i s = (ls, st)) (h3 : (stepP (ls, st)).2.ok = false) (hi : i < n) : (rdPs n s).2.ok = false := by
  have e2 : (rdPs (i + 1) s).2.ok = false := by show (stepP (rdPs i s)).2.ok = false; rw [h1]; exact h3
  rw [rdPs_stop e2 n hi]
  exact e2
theorem rdPs_next {s : List PC × RS} {i : Nat} {r r' : List PC × RS} (h1 : rdPs i s = r) (h2 : stepP r = r') : rdPs (i + 1) s = r' := by show stepP (rdPs i s) = r'; rw [h1, h2]
end Go.Proofs.YtiffcdeagckgmaaDoor
