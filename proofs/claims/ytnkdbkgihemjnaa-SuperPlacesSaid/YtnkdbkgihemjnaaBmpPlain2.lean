/- Plain laws of bitmaps: runs, counts, unions; no function of the program is named here. -/
import Derived.Test.YtnkdbkgihemjnaaBmpPlain
namespace Go.Proofs.Ytnkdbkgihemjnaa
set_option linter.unusedSimpArgs false
set_option linter.unusedVariables false
open Go.RowKit

/-! ### the runs, in order -/
def runsFrom (m : List UInt8) (k : Nat) : Nat → Nat → List (Nat × Nat)
  | 0, _ => []
  | g + 1, f => if f < k then (if 0 < rl m k f then (f, rl m k f) :: runsFrom m k g (f + rl m k f + 1) else runsFrom m k g (f + 1)) else []
theorem runsFrom_end {m : List UInt8} {k g f : Nat} (h : k ≤ f) : runsFrom m k g f = [] := by
  cases g with
  | zero => rfl
  | succ g => unfold runsFrom; rw [if_neg (by omega)]
theorem runsFrom_more {m : List UInt8} {k : Nat} : ∀ {g g' f : Nat}, k ≤ f + g → k ≤ f + g' → runsFrom m k g f = runsFrom m k g' f
  | 0, g', f, h, _ => by rw [runsFrom_end (by omega), runsFrom_end (by omega)]
  | g + 1, 0, f, _, h => by rw [runsFrom_end (by omega), runsFrom_end (by omega)]
  | g + 1, g' + 1, f, h, h' => by
    unfold runsFrom
    split
    · split
      · rw [runsFrom_more (g := g) (g' := g') (by omega) (by omega)]
      · exact runsFrom_more (g := g) (g' := g') (by omega) (by omega)
    · rfl
/-- all runs behind f -/
def runsAt (m : List UInt8) (k f : Nat) : List (Nat × Nat) := runsFrom m k (k - f) f
theorem runsAt_end {m : List UInt8} {k f : Nat} (h : k ≤ f) : runsAt m k f = [] := runsFrom_end h
theorem runsAt_run {m : List UInt8} {k f : Nat} (h : f < k) (hr : 0 < rl m k f) : runsAt m k f = (f, rl m k f) :: runsAt m k (f + rl m k f + 1) := by
  unfold runsAt
  rw [show k - f = (k - f - 1) + 1 from by omega]
  conv => lhs; unfold runsFrom
  rw [if_pos h, if_pos hr]
  congr 1
  exact runsFrom_more (by omega) (by omega)
theorem runsAt_skip {m : List UInt8} {k f : Nat} (h : f < k) (hr : ¬ 0 < rl m k f) : runsAt m k f = runsAt m k (f + 1) := by
  unfold runsAt
  rw [show k - f = (k - f - 1) + 1 from by omega]
  conv => lhs; unfold runsFrom
  rw [if_pos h, if_neg hr]
  exact runsFrom_more (by omega) (by omega)
theorem below_step {m : List UInt8} {k n f : Nat} (hn : 1 ≤ n) (hf : f ≤ k) (h : ∀ b, b < f → rl m k b < n) (hr : rl m k f < n) : ∀ b, b < f + rl m k f + 1 → rl m k b < n := by
  intro b hb
  by_cases e : b < f
  · exact h b e
  · have := rl_in (m := m) (k := k) (f := f) (j := b - f) (by omega) hf
    rw [show f + (b - f) = b from by omega] at this
    omega
/-- ahead of a run, of which none ahead has n blocks, there are no n free blocks in a row -/
theorem runs_prefix {m : List UInt8} {k n : Nat} (hn : 1 ≤ n) : ∀ (d f : Nat), k ≤ f + d → (∀ b, b < f → rl m k b < n) → ∀ (pre rest : List (Nat × Nat)), runsAt m k f = pre ++ rest → (∀ x ∈ pre, x.2 < n) →
    (∀ x r, rest = x :: r → x.1 < k ∧ rl m k x.1 = x.2 ∧ ∀ b, b < x.1 → rl m k b < n) ∧ (rest = [] → ∀ b, b < k → rl m k b < n)
  | 0, f, hd, hb, pre, rest, he, hp => by
    rw [runsAt_end (by omega)] at he
    obtain ⟨rfl, rfl⟩ := List.append_eq_nil_iff.1 he.symm
    exact ⟨fun x r e => (by cases e), fun _ b hbk => hb b (by omega)⟩
  | d + 1, f, hd, hb, pre, rest, he, hp => by
    by_cases hk : f < k
    · by_cases hr : 0 < rl m k f
      · rw [runsAt_run hk hr] at he
        match pre, he, hp with
        | [], he, _ =>
          simp only [List.nil_append] at he
          refine ⟨fun x r e => ?_, fun e => by rw [← he] at e; cases e⟩
          rw [← he] at e
          injection e with e1 e2
          subst e1
          exact ⟨hk, rfl, hb⟩
        | y :: pre, he, hp =>
          injection he with e1 e2
          subst e1
          exact runs_prefix hn d _ (by omega) (below_step hn (by omega) hb (hp (f, rl m k f) (by simp))) pre rest e2 (fun x hx => hp x (by simp [hx]))
      · rw [runsAt_skip hk hr] at he
        have h0 : rl m k f = 0 := by omega
        have := below_step hn (by omega) hb (by omega : rl m k f < n)
        rw [h0] at this
        exact runs_prefix hn d (f + 1) (by omega) this pre rest he hp
    · rw [runsAt_end (by omega)] at he
      obtain ⟨rfl, rfl⟩ := List.append_eq_nil_iff.1 he.symm
      exact ⟨fun x r e => (by cases e), fun _ b hbk => hb b (by omega)⟩
theorem runs_found {m : List UInt8} {k n : Nat} (hn : 1 ≤ n) {pre rest : List (Nat × Nat)} {x : Nat × Nat} (he : runsAt m k 0 = pre ++ x :: rest) (hp : ∀ y ∈ pre, y.2 < n) (hx : n ≤ x.2) : leastRun m k n = some x.1 := by
  obtain ⟨h1, h2, h3⟩ := (runs_prefix hn k 0 (by omega) (fun b hb => absurd hb (by omega)) pre (x :: rest) he hp).1 x rest rfl
  exact leastRun_is h1 (by omega) h3
theorem runs_none {m : List UInt8} {k n : Nat} (hn : 1 ≤ n) (hp : ∀ y ∈ runsAt m k 0, y.2 < n) : leastRun m k n = none :=
  leastRun_none ((runs_prefix hn k 0 (by omega) (fun b hb => absurd hb (by omega)) (runsAt m k 0) [] (by simp) hp).2 rfl)

/-! ### counts -/
def cntTo (m : List UInt8) : Nat → Nat
  | 0 => 0
  | i + 1 => cntTo m i + if bit m i = true then 1 else 0
theorem cntTo_succ (m : List UInt8) (i : Nat) : cntTo m (i + 1) = cntTo m i + if bit m i = true then 1 else 0 := rfl
theorem cntTo_le (m : List UInt8) (i : Nat) : cntTo m i ≤ i := by
  induction i with
  | zero => exact Nat.le_refl _
  | succ i ih => rw [cntTo_succ]; split <;> omega
theorem cntTo_putB {m : List UInt8} {b : Nat} (hm : m.length = 16) (hb : b < 128) (hf : bit m b = false) (i : Nat) : cntTo (putB m b) i = cntTo m i + if b < i then 1 else 0 := by
  induction i with
  | zero => simp [cntTo]
  | succ i ih =>
    rw [cntTo_succ, cntTo_succ, ih, bit_putB hm hb]
    by_cases e : b = i
    · subst e
      simp [hf]
    · have h1 : decide (b = i) = false := by simpa using e
      rw [h1, Bool.or_false]
      by_cases e2 : b < i
      · simp only [e2, if_true, show b < i + 1 from by omega]; omega
      · simp only [e2, if_false, show ¬ b < i + 1 from by omega]; omega
theorem cntTo_putN {m : List UInt8} {f n : Nat} (hm : m.length = 16) (h : f + n ≤ 128) (hf : freeN m f n) : cntTo (putN m f n) 128 = cntTo m 128 + n := by
  induction n with
  | zero => rw [putN, Nat.add_zero]
  | succ n ih =>
    rw [putN, cntTo_putB (by rw [putN_len]; exact hm) (by omega) (by
      rw [bit_putN hm (by omega), hf (f + n) (by omega) (by omega)]
      simp), ih (by omega) (fun b h1 h2 => hf b h1 (by omega)), if_pos (by omega)]
    omega

/-! ### unions -/
def orM (a b : List UInt8) : List UInt8 := List.zipWith (fun x y => x ||| y) a b
theorem orM_len {a b : List UInt8} (ha : a.length = 16) (hb : b.length = 16) : (orM a b).length = 16 := by simp [orM, ha, hb]
theorem byteAt_orM {a b : List UInt8} (ha : a.length = 16) (hb : b.length = 16) (i : Nat) : byteAt (orM a b) i = byteAt a i ||| byteAt b i := by
  unfold byteAt orM
  rw [List.getElem?_zipWith]
  rcases Nat.lt_or_ge i 16 with h | h
  · rw [List.getElem?_eq_getElem (by omega), List.getElem?_eq_getElem (by omega)]; rfl
  · rw [List.getElem?_eq_none (by omega), List.getElem?_eq_none (by omega)]; rfl
theorem bit_orM {a b : List UInt8} (ha : a.length = 16) (hb : b.length = 16) (c : Nat) : bit (orM a b) c = (bit a c || bit b c) := by
  unfold bit
  rw [byteAt_orM ha hb, UInt8.toNat_or, Nat.testBit_or]
theorem orM_comm {a b : List UInt8} (ha : a.length = 16) (hb : b.length = 16) : orM b a = orM a b :=
  bits_ext (orM_len hb ha) (orM_len ha hb) (fun c _ => by rw [bit_orM hb ha, bit_orM ha hb, Bool.or_comm])
theorem orM_self {a : List UInt8} (ha : a.length = 16) : orM a a = a := bits_ext (orM_len ha ha) ha (fun c _ => by rw [bit_orM ha ha, Bool.or_self])
theorem orM_again {a b : List UInt8} (ha : a.length = 16) (hb : b.length = 16) : orM (orM a b) b = orM a b :=
  bits_ext (orM_len (orM_len ha hb) hb) (orM_len ha hb) (fun c _ => by rw [bit_orM (orM_len ha hb) hb, bit_orM ha hb, Bool.or_assoc, Bool.or_self])
theorem orM_more {m : List UInt8} {f n : Nat} (hm : m.length = 16) (h : f + n ≤ 128) : orM m (putN m f n) = putN m f n :=
  bits_ext (orM_len hm (by rw [putN_len]; exact hm)) (by rw [putN_len]; exact hm) (fun c _ => by
    rw [bit_orM hm (by rw [putN_len]; exact hm), bit_putN hm h, ← Bool.or_assoc, Bool.or_self])

/-! ### runs of one length, taken one by one -/
theorem least_free {m : List UInt8} {k n a : Nat} (h : leastRun m k n = some a) (hn : 1 ≤ n) : a + n ≤ k ∧ freeN m a n ∧ ∀ b, b < a → ¬ freeN m b n := by
  obtain ⟨_, h2, h3, h4⟩ := leastFrom_some k 0 h
  have hl := rl_le m k a
  refine ⟨by omega, (free_rl n a (by omega)).2 h3, fun b hb hf => ?_⟩
  have := (free_rl (m := m) (k := k) n b (by omega)).1 hf
  have := h4 b (by omega) hb
  omega
theorem least_rises {m : List UInt8} {n a a' : Nat} (hm : m.length = 16) (hn : 1 ≤ n) (h : leastRun m 128 n = some a) (h' : leastRun (putN m a n) 128 n = some a') : a < a' := by
  obtain ⟨h1, h2, h3⟩ := least_free h hn
  obtain ⟨h4, h5, h6⟩ := least_free h' hn
  rcases Nat.lt_trichotomy a a' with e | e | e
  · exact e
  · subst e
    have := h5 a (by omega) (by omega)
    rw [bit_putN hm (by omega)] at this
    simp at this
    omega
  · refine absurd (fun b g1 g2 => ?_) (h3 a' e)
    have := h5 b g1 g2
    rw [bit_putN hm (by omega)] at this
    simp only [Bool.or_eq_false_iff] at this
    exact this.1

/-! ### With -/
def z16 : List UInt8 := [0, 0, 0, 0, 0, 0, 0, 0, 0, 0, 0, 0, 0, 0, 0, 0]
instance freeN_dec (m : List UInt8) (f n : Nat) : Decidable (freeN m f n) := decidable_of_iff (∀ b, b < f + n → f ≤ b → bit m b = false) ⟨fun h b h1 h2 => h b h2 h1, fun h b h1 h2 => h b h2 h1⟩
def withR (m : List UInt8) (f n : Int) : List UInt8 × Int :=
  if n < 1 ∨ f < 0 ∨ 128 ≤ f ∨ 128 - f < n then (z16, 1) else if freeN m f.toNat n.toNat then (putN m f.toNat n.toNat, 0) else (z16, 11)
theorem withR_arg {m : List UInt8} {f n : Int} (h : n < 1 ∨ f < 0 ∨ 128 ≤ f ∨ 128 - f < n) : withR m f n = (z16, 1) := if_pos h
theorem withR_free {m : List UInt8} {f n : Nat} (h1 : 1 ≤ n) (h : f + n ≤ 128) (hf : freeN m f n) : withR m f n = (putN m f n, 0) := by
  unfold withR
  rw [if_neg (by omega), if_pos (by simpa using hf)]
  simp
theorem withR_used {m : List UInt8} {f n b : Nat} (h1 : 1 ≤ n) (h : f + n ≤ 128) (hb : f ≤ b) (hb2 : b < f + n) (hu : bit m b = true) : withR m f n = (z16, 11) := by
  unfold withR
  rw [if_neg (by omega), if_neg (fun hf => ?_)]
  have := hf b (by simpa using hb) (by simpa using hb2)
  rw [hu] at this; cases this
theorem withR_len {m : List UInt8} (hm : m.length = 16) (f n : Int) : (withR m f n).1.length = 16 := by
  unfold withR
  split
  · rfl
  · split
    · rw [putN_len]; exact hm
    · rfl
def runR (m : List UInt8) (k n : Int) : Int × Int :=
  if n < 1 ∨ k < 1 ∨ 128 < k then (0, 1) else match leastRun m k.toNat n.toNat with
    | some a => (a, 0)
    | none => (0, 14)
theorem freeN_more {m : List UInt8} {f n : Nat} (h : freeN m f n) (hb : bit m (f + n) = false) : freeN m f (n + 1) := fun b h1 h2 => by
  by_cases e : b = f + n
  · rw [e]; exact hb
  · exact h b h1 (by omega)
end Go.Proofs.Ytnkdbkgihemjnaa
