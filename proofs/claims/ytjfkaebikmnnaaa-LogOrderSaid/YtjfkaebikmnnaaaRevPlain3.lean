/- Logs there and back, in plain Lean. -/
import Derived.Test.YtjfkaebikmnnaaaRevPlain2
namespace Go.Proofs.Ytjfkaebikmnnaaa
set_option linter.unusedSimpArgs false
set_option linter.unusedVariables false

theorem at8_drop (b : List UInt8) (i j : Nat) : at8 (b.drop i) j = at8 b (i + j) := by unfold at8; rw [List.getElem?_drop]
theorem n16_drop (b : List UInt8) (i : Nat) : n16 b i = n16 (b.drop i) 0 := by unfold n16; rw [at8_drop, at8_drop]; rfl
/-- an entry of 34 bytes -/
def decP (d : List UInt8) : LE := ⟨n16 d 0, (d.drop 2).take 32⟩
theorem decE_drop (b : List UInt8) (k : Nat) : decE b k = decP (b.drop (3 + k * 34)) := by
  unfold decE decP
  rw [n16_drop, List.drop_drop]
theorem LE.blen {x : LE} (h : x.key.length = 32) : x.bytes.length = 34 := by simp [LE.bytes, h]
theorem flat_blen : ∀ {l : List LE}, (∀ x ∈ l, x.key.length = 32) → (l.flatMap LE.bytes).length = l.length * 34
  | [], _ => rfl
  | x :: l, h => by rw [List.flatMap_cons, List.length_append, LE.blen (h x (by simp)), flat_blen (fun y hy => h y (by simp [hy])), List.length_cons, Nat.add_mul, Nat.one_mul, Nat.add_comm]
theorem flat_drop : ∀ {l : List LE} (k : Nat), (∀ x ∈ l, x.key.length = 32) → (l.flatMap LE.bytes).drop (k * 34) = (l.drop k).flatMap LE.bytes
  | l, 0, _ => by simp
  | [], k + 1, _ => by simp
  | x :: l, k + 1, h => by
    rw [List.flatMap_cons, Nat.add_mul, Nat.one_mul, Nat.add_comm, ← List.drop_drop, List.drop_left' (LE.blen (h x (by simp))), List.drop_succ_cons]
    exact flat_drop k (fun y hy => h y (by simp [hy]))
theorem decP_bytes {x : LE} (hk : x.key.length = 32) (h0 : 0 ≤ x.num) (h1 : x.num ≤ 65535) (t : List UInt8) : decP (x.bytes ++ t) = x := by
  obtain ⟨num, key⟩ := x
  simp only at hk h0 h1
  unfold decP LE.bytes
  simp only [List.cons_append, List.drop_succ_cons, List.drop_zero, LE.mk.injEq]
  refine ⟨n16_u8 (by omega) (by omega) _, ?_⟩
  rw [← hk, List.take_left]
/-- a log whose numbers fit, with what stands behind -/
theorem decE_log {next : Int} {l : List LE} (hk : ∀ x ∈ l, x.key.length = 32 ∧ 0 ≤ x.num ∧ x.num ≤ 65535) (t : List UInt8) {k : Nat} (h : k < l.length) : decE (bytesL next l ++ t) k = l[k] := by
  rw [decE_drop]
  have e : (bytesL next l ++ t).drop (3 + k * 34) = l[k].bytes ++ ((l.drop (k + 1)).flatMap LE.bytes ++ t) := by
    unfold bytesL headL
    rw [← List.drop_drop]
    simp only [List.cons_append, List.nil_append, List.drop_succ_cons, List.drop_zero]
    rw [List.drop_append_of_le_length (by rw [flat_blen (fun x hx => (hk x hx).1)]; omega), flat_drop k (fun x hx => (hk x hx).1), List.drop_eq_getElem_cons h, List.flatMap_cons, List.append_assoc]
  rw [e]
  have := hk _ (List.getElem_mem h)
  exact decP_bytes this.1 this.2.1 this.2.2 _
theorem rise_le : ∀ {l : List LE} {a next : Int}, rise a next l = true → 0 ≤ a → ∀ x ∈ l, 0 ≤ x.num ∧ x.num < next
  | [], _, _, _, _, x, hx => by cases hx
  | y :: l, a, next, h, h0, x, hx => by
    unfold rise at h
    simp only [Bool.and_eq_true, decide_eq_true_eq] at h
    rcases List.mem_cons.1 hx with rfl | hx
    · omega
    · exact rise_le h.2 (by omega) x hx
theorem goodL_iff {next : Int} {l : List LE} : goodL next l = true ↔ (1 ≤ next ∧ next ≤ 65535 ∧ l.length ≤ 8) ∧ rise 0 next l = true := by unfold goodL; simp
theorem goodL_fit {next : Int} {l : List LE} (h : goodL next l = true) (ho : ∀ x ∈ l, x.Ok) : ∀ x ∈ l, x.key.length = 32 ∧ 0 ≤ x.num ∧ x.num ≤ 65535 := fun x hx => by
  obtain ⟨⟨h1, h2, h3⟩, h4⟩ := goodL_iff.1 h
  have := rise_le h4 (by omega) x hx
  exact ⟨(ho x hx).key, this.1, by omega⟩
theorem bytesL_head {next : Int} {l : List LE} (h1 : 1 ≤ next) (h2 : next ≤ 65535) (h8 : l.length ≤ 8) (t : List UInt8) : (n16 (bytesL next l ++ t) 0 : Int) = next ∧ (at8 (bytesL next l ++ t) 2).toNat = l.length := by
  unfold bytesL headL
  simp only [List.cons_append, List.nil_append]
  refine ⟨n16_u8 (by omega) (by omega) _, ?_⟩
  rw [at8_cons, at8_cons, at8_cons0]
  have := u8_toNat (l.length : Int)
  omega
theorem decL_log {next : Int} {l : List LE} (h : goodL next l = true) (ho : ∀ x ∈ l, x.Ok) (t : List UInt8) : decL (bytesL next l ++ t) = l := by
  obtain ⟨⟨h1, h2, h3⟩, -⟩ := goodL_iff.1 h
  unfold decL
  rw [(bytesL_head h1 h2 h3 t).2]
  apply List.ext_getElem
  · simp
  · intro k hk hk'
    rw [List.getElem_map, List.getElem_range]
    exact decE_log (goodL_fit h ho) t hk'
/-- what is decoded of a log's bytes is it -/
theorem log_back {next : Int} {l : List LE} (h : goodL next l = true) (ho : ∀ x ∈ l, x.Ok) : isL (bytesL next l) = true ∧ nextOf (bytesL next l) = next ∧ logOf (bytesL next l) = l := by
  obtain ⟨⟨h1, h2, h3⟩, -⟩ := goodL_iff.1 h
  have hd := decL_log h ho []
  have hh := bytesL_head h1 h2 h3 []
  rw [List.append_nil] at hd hh
  have hi : isL (bytesL next l) = true := by
    unfold isL
    rw [hd, hh.1, h, hh.2, bytesL_len ho]
    simp
  refine ⟨hi, ?_, ?_⟩
  · unfold nextOf; rw [hi, if_pos rfl]; exact hh.1
  · unfold logOf; rw [hi, if_pos rfl]; exact hd
/-- with one byte more it is none's -/
theorem log_more {next : Int} {l : List LE} (h : goodL next l = true) (ho : ∀ x ∈ l, x.Ok) (z : UInt8) : isL (bytesL next l ++ [z]) = false := by
  obtain ⟨⟨h1, h2, h3⟩, -⟩ := goodL_iff.1 h
  have hh := bytesL_head h1 h2 h3 [z]
  unfold isL
  rw [hh.2, List.length_append, bytesL_len ho]
  simp
/-- entries of a row of bytes -/
theorem flat_back : ∀ (cnt : Nat) (r : List UInt8), r.length = cnt * 34 → ((List.range cnt).map (fun k => decP (r.drop (k * 34)))).flatMap LE.bytes = r
  | 0, r, h => by have : r = [] := List.length_eq_zero_iff.1 (by omega); subst this; rfl
  | cnt + 1, r, h => by
    match r, h with
    | [], h => exact absurd h (by simp)
    | [_], h => exact absurd h (by simp only [List.length_cons, List.length_nil]; omega)
    | b0 :: b1 :: t, h =>
      simp only [List.length_cons] at h
      have ht : t = t.take 32 ++ t.drop 32 := (List.take_append_drop 32 t).symm
      have ih := flat_back cnt (t.drop 32) (by rw [List.length_drop]; omega)
      rw [List.range_succ_eq_map, List.map_cons, List.map_map, List.flatMap_cons]
      have e : ((List.range cnt).map ((fun k => decP ((b0 :: b1 :: t).drop (k * 34))) ∘ Nat.succ)) = (List.range cnt).map (fun k => decP ((t.drop 32).drop (k * 34))) := by
        apply List.map_congr_left
        intro k _
        show decP ((b0 :: b1 :: t).drop (k.succ * 34)) = _
        rw [Nat.succ_mul, show k * 34 + 34 = 32 + k * 34 + 1 + 1 by omega, List.drop_succ_cons, List.drop_succ_cons, ← List.drop_drop]
      rw [e, ih]
      simp only [Nat.zero_mul, List.drop_zero, decP, LE.bytes, List.drop_succ_cons, n16, at8_cons0, at8_cons, u8_hi, u8_lo, List.cons_append, List.take_append_drop]
/-- the bytes of what was decoded are they -/
theorem back_log {b : List UInt8} (h : isL b = true) : bytesL (nextOf b) (logOf b) = b ∧ goodL (nextOf b) (logOf b) = true := by
  have hi := h
  unfold nextOf logOf
  rw [h, if_pos rfl, if_pos rfl]
  unfold isL at hi
  simp only [Bool.and_eq_true, decide_eq_true_eq] at hi
  obtain ⟨⟨h3, hl⟩, hg⟩ := hi
  refine ⟨?_, hg⟩
  rcases b with _ | ⟨b0, _ | ⟨b1, _ | ⟨b2, r⟩⟩⟩
  · simp at h3
  · simp at h3
  · simp at h3
  · clear h3 hg h
    simp only [List.length_cons, at8_cons, at8_cons0] at hl
    unfold bytesL headL decL
    rw [List.length_map, List.length_range]
    have e : (List.range b2.toNat).map (decE (b0 :: b1 :: b2 :: r)) = (List.range b2.toNat).map (fun k => decP (r.drop (k * 34))) := by
      apply List.map_congr_left
      intro k _
      rw [decE_drop, ← List.drop_drop]
      rfl
    simp only [at8_cons, at8_cons0, n16, u8_hi, u8_lo, u8_byte, List.cons_append, List.nil_append]
    rw [e, flat_back b2.toNat r (by omega)]
theorem none_log {b : List UInt8} (h : isL b = false) : nextOf b = 0 ∧ logOf b = [] := by
  unfold nextOf logOf
  rw [h]
  exact ⟨rfl, rfl⟩
end Go.Proofs.Ytjfkaebikmnnaaa
