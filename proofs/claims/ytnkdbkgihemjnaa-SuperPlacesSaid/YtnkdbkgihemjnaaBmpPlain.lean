/- Plain words for bitmaps; no function of the program is named here. -/
import Derived.Test.YtnkdbkgihemjnaaMem
import Derived.Laws.BitsLemmas
namespace Go.Proofs.Ytnkdbkgihemjnaa
set_option linter.unusedSimpArgs false
set_option linter.unusedVariables false
open Go.RowKit

def byteAt (m : List UInt8) (i : Nat) : UInt8 := m[i]?.getD 0
def bit (m : List UInt8) (b : Nat) : Bool := (byteAt m (b / 8)).toNat.testBit (b % 8)
def hasB (m : List UInt8) (b : Int) : Bool := decide (b < 0) || decide (128 ≤ b) || bit m b.toNat
theorem hasB_nat {m : List UInt8} {b : Nat} (h : b < 128) : hasB m b = bit m b := by
  have h1 : ¬ (128 : Int) ≤ (b : Int) := by omega
  have h2 : ¬ (b : Int) < 0 := by omega
  simp [hasB, h1, h2]
def putB (m : List UInt8) (b : Nat) : List UInt8 := m.set (b / 8) (byteAt m (b / 8) ||| UInt8.ofNat (2 ^ (b % 8)))
theorem putB_len (m : List UInt8) (b : Nat) : (putB m b).length = m.length := by simp [putB]
theorem u8_pow {k : Nat} (h : k < 8) : (UInt8.ofNat (2 ^ k)).toNat = 2 ^ k := by
  match k, h with
  | 0, _ | 1, _ | 2, _ | 3, _ | 4, _ | 5, _ | 6, _ | 7, _ => rfl
theorem byteAt_set {m : List UInt8} {i j : Nat} {v : UInt8} (h : i < m.length) : byteAt (m.set i v) j = if i = j then v else byteAt m j := by
  unfold byteAt
  rw [List.getElem?_set]
  split
  · rename_i e; subst e; simp [h]
  · rfl
theorem bit_putB {m : List UInt8} {b c : Nat} (hm : m.length = 16) (hb : b < 128) : bit (putB m b) c = (bit m c || decide (b = c)) := by
  unfold bit putB
  rw [byteAt_set (by omega)]
  split
  · rename_i e
    rw [UInt8.toNat_or, Nat.testBit_or, u8_pow (by omega), e]
    congr 1
    rw [Nat.testBit_two_pow, Bool.eq_iff_iff]
    simp only [decide_eq_true_eq]
    constructor
    · intro h; omega
    · intro h; omega
  · rename_i e
    have : ¬ b = c := fun h => e (by rw [h])
    simp [this]
def putN (m : List UInt8) (f : Nat) : Nat → List UInt8
  | 0 => m
  | n + 1 => putB (putN m f n) (f + n)
theorem putN_len (m : List UInt8) (f n : Nat) : (putN m f n).length = m.length := by
  induction n with
  | zero => rfl
  | succ n ih => rw [putN, putB_len, ih]
theorem bit_putN {m : List UInt8} {f n c : Nat} (hm : m.length = 16) (h : f + n ≤ 128) : bit (putN m f n) c = (bit m c || decide (f ≤ c ∧ c < f + n)) := by
  induction n with
  | zero =>
    have : ¬ (f ≤ c ∧ c < f + 0) := by omega
    simp [putN]
    omega
  | succ n ih =>
    rw [putN, bit_putB (by rw [putN_len]; exact hm) (by omega), ih (by omega), Bool.or_assoc]
    congr 1
    rw [Bool.eq_iff_iff]
    simp only [Bool.or_eq_true, decide_eq_true_eq]
    omega
/-- two bitmaps of as many bits are the same -/
theorem bits_ext {a b : List UInt8} (ha : a.length = 16) (hb : b.length = 16) (h : ∀ c, c < 128 → bit a c = bit b c) : a = b := by
  apply List.ext_getElem (by omega)
  intro i h1 h2
  apply UInt8.toNat_inj.1
  apply Nat.eq_of_testBit_eq
  intro j
  rcases Nat.lt_or_ge j 8 with hj | hj
  · have := h (8 * i + j) (by omega)
    unfold bit byteAt at this
    rw [show (8 * i + j) / 8 = i from by omega, show (8 * i + j) % 8 = j from by omega, List.getElem?_eq_getElem h1, List.getElem?_eq_getElem h2] at this
    exact this
  · have p : ∀ x : UInt8, x.toNat.testBit j = false := fun x => Nat.testBit_lt_two_pow (by
      have h1 := x.toNat_lt
      have h2 : 2 ^ 8 ≤ 2 ^ j := Nat.pow_le_pow_right (by omega) hj
      omega)
    rw [p, p]
/-- how far it is free -/
def rl (m : List UInt8) (k : Nat) (f : Nat) : Nat := ((List.range' f (k - f)).takeWhile (fun b => !bit m b)).length
theorem rl_end {m : List UInt8} {k f : Nat} (h : k ≤ f) : rl m k f = 0 := by simp [rl, Nat.sub_eq_zero_of_le h]
theorem rl_used {m : List UInt8} {k f : Nat} (h : bit m f = true) : rl m k f = 0 := by
  unfold rl
  cases hn : k - f with
  | zero => rfl
  | succ n => simp [List.range'_succ, List.takeWhile_cons, h]
theorem rl_free {m : List UInt8} {k f : Nat} (hk : f < k) (h : bit m f = false) : rl m k f = rl m k (f + 1) + 1 := by
  unfold rl
  rw [show k - f = (k - (f + 1)) + 1 from by omega, List.range'_succ, List.takeWhile_cons]
  simp [h]
theorem rl_le (m : List UInt8) (k f : Nat) : rl m k f ≤ k - f := by
  have := (List.takeWhile_sublist (fun b => !bit m b) (l := List.range' f (k - f))).length_le
  rwa [List.length_range'] at this
/-- n blocks are free -/
def freeN (m : List UInt8) (f n : Nat) : Prop := ∀ b, f ≤ b → b < f + n → bit m b = false
theorem free_rl {m : List UInt8} {k : Nat} : ∀ (n f : Nat), f + n ≤ k → (freeN m f n ↔ n ≤ rl m k f)
  | 0, f, _ => ⟨fun _ => Nat.zero_le _, fun _ b h1 h2 => absurd h2 (by omega)⟩
  | n + 1, f, h => by
    have ih := free_rl (m := m) (k := k) n (f + 1) (by omega)
    cases hb : bit m f
    · rw [rl_free (by omega) hb]
      constructor
      · intro hf
        have := ih.1 (fun b h1 h2 => hf b (by omega) (by omega))
        omega
      · intro hl b h1 h2
        by_cases e : b = f
        · rw [e]; exact hb
        · exact ih.2 (by omega) b (by omega) (by omega)
    · rw [rl_used hb]
      constructor
      · intro hf
        have := hf f (by omega) (by omega)
        rw [hb] at this; cases this
      · intro hl; omega
/-- in a run that is free, the rest of it is free -/
theorem rl_in {m : List UInt8} {k f j : Nat} (h : j ≤ rl m k f) (hf : f ≤ k) : rl m k (f + j) = rl m k f - j := by
  induction j with
  | zero => rfl
  | succ j ih =>
    have hl := rl_le m k f
    have ih := ih (by omega)
    have hb : bit m (f + j) = false := by
      have := (free_rl (m := m) (k := k) (rl m k f) f (by omega)).2 (Nat.le_refl _)
      exact this _ (by omega) (by omega)
    have := rl_free (m := m) (k := k) (f := f + j) (by omega) hb
    rw [← Nat.add_assoc]
    omega
/-- the least place of n free blocks, at or behind f -/
def leastFrom (m : List UInt8) (k n : Nat) : Nat → Nat → Option Nat
  | 0, _ => none
  | g + 1, f => if n ≤ rl m k f then some f else leastFrom m k n g (f + 1)
def leastRun (m : List UInt8) (k n : Nat) : Option Nat := leastFrom m k n k 0
theorem leastFrom_some {m : List UInt8} {k n a : Nat} : ∀ (g f : Nat), leastFrom m k n g f = some a → f ≤ a ∧ a < f + g ∧ n ≤ rl m k a ∧ ∀ b, f ≤ b → b < a → rl m k b < n
  | 0, f, h => by simp [leastFrom] at h
  | g + 1, f, h => by
    unfold leastFrom at h
    split at h
    · injection h with h; subst h
      exact ⟨Nat.le_refl _, by omega, by assumption, fun b h1 h2 => absurd h2 (by omega)⟩
    · obtain ⟨h1, h2, h3, h4⟩ := leastFrom_some g (f + 1) h
      refine ⟨by omega, by omega, h3, fun b h5 h6 => ?_⟩
      by_cases e : b = f
      · subst e; omega
      · exact h4 b (by omega) h6
theorem leastFrom_none {m : List UInt8} {k n : Nat} : ∀ (g f : Nat), leastFrom m k n g f = none → ∀ b, f ≤ b → b < f + g → rl m k b < n
  | 0, f, _ => fun b h1 h2 => absurd h2 (by omega)
  | g + 1, f, h => by
    unfold leastFrom at h
    split at h
    · cases h
    · intro b h5 h6
      by_cases e : b = f
      · subst e; omega
      · exact leastFrom_none g (f + 1) h b (by omega) (by omega)
theorem leastRun_is {m : List UInt8} {k n a : Nat} (h1 : a < k) (h2 : n ≤ rl m k a) (h3 : ∀ b, b < a → rl m k b < n) : leastRun m k n = some a := by
  cases h : leastRun m k n with
  | none => have := leastFrom_none k 0 h a (by omega) (by omega); omega
  | some c =>
    obtain ⟨_, _, h5, h6⟩ := leastFrom_some k 0 h
    rcases Nat.lt_trichotomy a c with h7 | h7 | h7
    · have := h6 a (by omega) h7; omega
    · rw [h7]
    · have := h3 c h7; omega
theorem leastRun_none {m : List UInt8} {k n : Nat} (h : ∀ b, b < k → rl m k b < n) : leastRun m k n = none := by
  cases hc : leastRun m k n with
  | none => rfl
  | some c =>
    obtain ⟨_, h4, h5, h6⟩ := leastFrom_some k 0 hc
    have := h c (by omega); omega
end Go.Proofs.Ytnkdbkgihemjnaa
