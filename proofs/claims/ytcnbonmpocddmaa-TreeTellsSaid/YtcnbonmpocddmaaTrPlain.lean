/- The tree in plain Lean: nodes' bytes, a level's nodes, all levels; no program in sight. -/
import Derived.Test.YtcnbonmpocddmaaShaPlain
namespace Go.Proofs.Ytcnbonmpocddmaa
set_option linter.unusedSimpArgs false
set_option linter.unusedVariables false

/-- a node's bytes -/
def nodeB (lv : Nat) (l : List (List UInt8)) : List UInt8 := UInt8.ofNat lv :: UInt8.ofNat l.length :: l.flatten
def encT (lv : Int) (l : List (List UInt8)) : Option (List UInt8) := if 0 ≤ lv ∧ lv ≤ 9 ∧ l.length ≤ 3 then some (nodeB lv.toNat l) else none
/-- parts of three -/
def parts3 : Nat → List (List UInt8) → List (List (List UInt8))
  | 0, _ => []
  | q + 1, l => if l.length ≤ 3 then [l] else l.take 3 :: parts3 q (l.drop 3)
/-- a level's nodes: of no list one node without children -/
def nodesT (lv : Nat) (l : List (List UInt8)) : List (List UInt8) := (parts3 (l.length + 1) l).map (nodeB lv)
theorem parts3_fuel : ∀ (q q' : Nat) (l : List (List UInt8)), l.length < 3 * q → l.length < 3 * q' → parts3 q l = parts3 q' l
  | 0, _, l, h, _ => by omega
  | _ + 1, 0, l, _, h => by omega
  | q + 1, q' + 1, l, h, h' => by
    rw [parts3, parts3]
    by_cases hl : l.length ≤ 3
    · rw [if_pos hl, if_pos hl]
    · rw [if_neg hl, if_neg hl, parts3_fuel q q' _ (by rw [List.length_drop]; omega) (by rw [List.length_drop]; omega)]
theorem parts3_len : ∀ (q : Nat) (l : List (List UInt8)), l.length < 3 * q → (parts3 q l).length = if l.length = 0 then 1 else (l.length + 2) / 3
  | 0, l, h => by omega
  | q + 1, l, h => by
    rw [parts3]
    by_cases hl : l.length ≤ 3
    · rw [if_pos hl]
      split
      · rfl
      · simp; omega
    · rw [if_neg hl, List.length_cons, parts3_len q _ (by rw [List.length_drop]; omega), List.length_drop, if_neg (by omega), if_neg (by omega)]
      omega
theorem parts3_flat : ∀ (q : Nat) (l : List (List UInt8)), l.length < 3 * q → (parts3 q l).flatten = l
  | 0, l, h => by omega
  | q + 1, l, h => by
    rw [parts3]
    by_cases hl : l.length ≤ 3
    · rw [if_pos hl]; simp
    · rw [if_neg hl, List.flatten_cons, parts3_flat q _ (by rw [List.length_drop]; omega), List.take_append_drop]
theorem nodesT_len (lv : Nat) (l : List (List UInt8)) : (nodesT lv l).length = if l.length = 0 then 1 else (l.length + 2) / 3 := by
  unfold nodesT
  rw [List.length_map, parts3_len _ _ (by omega)]
/-- all levels' nodes, one level behind the other; K: a node's digest -/
def levelsT (K : List UInt8 → List UInt8) : Nat → Nat → List (List UInt8) → List (List (List UInt8))
  | 0, _, _ => []
  | q + 1, lv, l => if (nodesT lv l).length = 1 then [nodesT lv l] else nodesT lv l :: levelsT K q (lv + 1) ((nodesT lv l).map K)
/-- how many levels -/
def lvN (n : Nat) : Nat := if n ≤ 3 then 1 else if n ≤ 9 then 2 else if n ≤ 27 then 3 else if n ≤ 81 then 4 else if n ≤ 243 then 5 else if n ≤ 729 then 6 else 7
theorem lvN_step {n : Nat} (h : 3 < n) (hn : n ≤ 1000) : lvN n = lvN ((n + 2) / 3) + 1 := by
  unfold lvN
  repeat' split
  all_goals omega
theorem levelsT_len (K : List UInt8 → List UInt8) : ∀ (q lv : Nat) (l : List (List UInt8)), l.length ≤ 1000 → lvN l.length ≤ q → (levelsT K q lv l).length = lvN l.length
  | 0, lv, l, _, h => by
    have : 1 ≤ lvN l.length := by unfold lvN; (repeat' split) <;> omega
    omega
  | q + 1, lv, l, hl, h => by
    rw [levelsT]
    by_cases h3 : l.length ≤ 3
    · have e : (nodesT lv l).length = 1 := by rw [nodesT_len]; split <;> omega
      rw [if_pos e]
      unfold lvN
      rw [if_pos h3]; rfl
    · have e : (nodesT lv l).length = (l.length + 2) / 3 := by rw [nodesT_len, if_neg (by omega)]
      have hs := lvN_step (n := l.length) (by omega) hl
      rw [if_neg (by omega), List.length_cons, levelsT_len K q _ _ (by rw [List.length_map, e]; omega) (by rw [List.length_map, e]; omega), List.length_map, e, hs]
end Go.Proofs.Ytcnbonmpocddmaa
