/- Leaves and roots there and back, in plain Lean; no program in sight. -/
import Derived.Test.YthmjkgpfnpdddaaLfPlain
namespace Go.Proofs.Ythmjkgpfnpdddaa
set_option linter.unusedSimpArgs false
set_option linter.unusedVariables false

theorem at8_right {a b : List UInt8} (i : Nat) : at8 (a ++ b) (a.length + i) = at8 b i := by
  unfold at8
  rw [List.getElem?_append_right (by omega), Nat.add_sub_cancel_left]
theorem seal_app (b : List UInt8) : ∃ r, sealB b = b ++ r := ⟨_, by unfold sealB pad; rw [List.append_assoc]⟩
theorem seal_at {b : List UInt8} {i : Nat} (h : i < b.length) : at8 (sealB b) i = at8 b i := by
  obtain ⟨r, e⟩ := seal_app b
  rw [e, at8_app h]
theorem seal_chk {b : List UInt8} {i : Nat} (h : i < 4) : at8 (sealB b) (b.length + i) = at8 (chk b) i := by
  unfold sealB pad
  rw [at8_app (by rw [List.length_append, chk_len]; omega), at8_right]
theorem seal_zero {b : List UInt8} {i : Nat} (h : b.length + 4 ≤ i) : at8 (sealB b) i = 0 := by
  obtain ⟨j, rfl⟩ : ∃ j, i = (b ++ chk b).length + j := ⟨i - (b ++ chk b).length, by rw [List.length_append, chk_len]; omega⟩
  unfold sealB pad
  rw [at8_right]
  unfold at8
  rw [List.getElem?_replicate]
  split <;> rfl
theorem enAt_shift {a b : List UInt8} (o : Nat) : enAt (a ++ b) (a.length + o) = enAt b o := by
  have h1 : at8 (a ++ b) (a.length + o + 32) = at8 b (o + 32) := by rw [Nat.add_assoc, at8_right]
  have h2 : at8 (a ++ b) (a.length + o + 33) = at8 b (o + 33) := by rw [Nat.add_assoc, at8_right]
  have h3 : n16 (a ++ b) (a.length + o + 34) = n16 b (o + 34) := by
    unfold n16
    rw [Nat.add_assoc, at8_right, Nat.add_assoc, at8_right]
  unfold enAt
  rw [h1, h2, h3, ← List.drop_drop, List.drop_left]
theorem enAt_bytes {x : EN} (hx : x.Ok) (h1 : x.one = true) (r : List UInt8) : enAt (x.bytes ++ r) 0 = x := by
  obtain ⟨p1, p2, p3, p4, p5, p6, p7⟩ := (EN.one_iff x).1 h1
  have hk := hx.key
  have e : x.bytes ++ r = x.key ++ ([u8 x.place, u8 x.blocks, u8 (x.refs / 256), u8 x.refs] ++ r) := by unfold EN.bytes; rw [List.append_assoc]
  have q0 := u8_toNat x.place
  have q1 := u8_toNat x.blocks
  have q2 := u8_toNat (x.refs / 256)
  have q3 := u8_toNat x.refs
  have c0 : at8 (x.bytes ++ r) 32 = u8 x.place := by rw [e]; have := at8_right (a := x.key) (b := [u8 x.place, u8 x.blocks, u8 (x.refs / 256), u8 x.refs] ++ r) 0; rw [hk] at this; exact this
  have c1 : at8 (x.bytes ++ r) 33 = u8 x.blocks := by rw [e]; have := at8_right (a := x.key) (b := [u8 x.place, u8 x.blocks, u8 (x.refs / 256), u8 x.refs] ++ r) 1; rw [hk] at this; exact this
  have c2 : at8 (x.bytes ++ r) 34 = u8 (x.refs / 256) := by rw [e]; have := at8_right (a := x.key) (b := [u8 x.place, u8 x.blocks, u8 (x.refs / 256), u8 x.refs] ++ r) 2; rw [hk] at this; exact this
  have c3 : at8 (x.bytes ++ r) 35 = u8 x.refs := by rw [e]; have := at8_right (a := x.key) (b := [u8 x.place, u8 x.blocks, u8 (x.refs / 256), u8 x.refs] ++ r) 3; rw [hk] at this; exact this
  have ck : ((x.bytes ++ r).drop 0).take 32 = x.key := by rw [e, List.drop_zero, ← hk, List.take_left]
  unfold enAt n16
  rw [ck]
  simp only [Nat.zero_add, Nat.reduceAdd, c0, c1, c2, c3]
  obtain ⟨k, p, b, f⟩ := x
  simp only [EN.mk.injEq, true_and]
  simp only at q0 q1 q2 q3 p1 p2 p3 p4 p5 p6 p7
  refine ⟨by omega, by omega, by omega⟩
theorem en_back : ∀ (l : List EN) (r : List UInt8), (∀ x ∈ l, x.Ok ∧ x.one = true) → (List.range l.length).map (fun k => enAt (l.flatMap EN.bytes ++ r) (k * 36)) = l
  | [], _, _ => rfl
  | x :: l, r, h => by
    obtain ⟨hx, h1⟩ := h x (by simp)
    have ih := en_back l r (fun y hy => h y (by simp [hy]))
    rw [List.length_cons, List.range_succ_eq_map, List.map_cons, List.map_map, List.flatMap_cons, List.append_assoc, Nat.zero_mul, enAt_bytes hx h1]
    congr 1
    refine Eq.trans ?_ ih
    apply List.map_congr_left
    intro k _
    have := enAt_shift (a := x.bytes) (b := l.flatMap EN.bytes ++ r) (k * 36)
    rw [hx.bytes] at this
    show enAt _ ((k + 1) * 36) = _
    rw [Nat.add_mul, Nat.one_mul, Nat.add_comm]
    exact this
theorem chain_one {l : List EN} (h : chain l = true) : ∀ x ∈ l, x.one = true := by
  intro x hx
  obtain ⟨j, hj, rfl⟩ := List.getElem_of_mem hx
  obtain ⟨y, e, hy, -⟩ := (chain_iff l).1 h j hj
  rw [List.getElem?_eq_getElem hj] at e
  injection e with e
  rw [e]; exact hy
theorem goodE_parts {l : List EN} (h : goodE l = true) : (1 ≤ l.length ∧ l.length ≤ 3) ∧ chain l = true := by
  unfold goodE at h
  rw [Bool.and_eq_true, decide_eq_true_eq] at h
  exact h
theorem lfB_at (l : List EN) : at8 (lfB l) 0 = 76 ∧ at8 (lfB l) 1 = u8 (l.length : Int) := ⟨rfl, rfl⟩
theorem lfN_enc {l : List EN} (hok : ∀ x ∈ l, x.Ok) (h : goodE l = true) : lfN (lfEnc l) = l.length := by
  have h3 := (goodE_parts h).1
  unfold lfN lfEnc
  rw [if_pos h, seal_at (by rw [lfB_len hok]; omega), (lfB_at l).2]
  have := u8_toNat (l.length : Int)
  omega
theorem enL_enc {l : List EN} (hok : ∀ x ∈ l, x.Ok) (h : goodE l = true) : enL (lfEnc l) l.length = l := by
  have hc := chain_one (goodE_parts h).2
  unfold lfEnc
  rw [if_pos h]
  obtain ⟨r, e⟩ := seal_app (lfB l)
  rw [e]
  refine Eq.trans ?_ (en_back l r (fun x hx => ⟨hok x hx, hc x hx⟩))
  unfold enL
  apply List.map_congr_left
  intro k _
  have := enAt_shift (a := [76, u8 (l.length : Int)]) (b := l.flatMap EN.bytes ++ r) (k * 36)
  unfold lfB
  rw [List.append_assoc]
  exact this
theorem lf_back {l : List EN} (hok : ∀ x ∈ l, x.Ok) (h : goodE l = true) : isLf (lfEnc l) = true ∧ lfDec (lfEnc l) = l := by
  have h3 := (goodE_parts h).1
  have h1 : isLf (lfEnc l) = true := by
    unfold isLf
    rw [lfN_enc hok h, enL_enc hok h, h, decide_eq_true h3.2]
    unfold lfEnc
    rw [if_pos h, beq_self_eq_true]
    rfl
  refine ⟨h1, ?_⟩
  unfold lfDec
  rw [if_pos h1, lfN_enc hok h, enL_enc hok h]
theorem isLf_parts {b : Blk} (h : isLf b = true) : lfN b ≤ 3 ∧ goodE (enL b (lfN b)) = true ∧ sealB (lfB (enL b (lfN b))) = b := by
  unfold isLf at h
  rw [Bool.and_eq_true, Bool.and_eq_true, decide_eq_true_eq, beq_iff_eq] at h
  exact h
/-- what a leaf's entries encode to is the leaf -/
theorem lf_fwd {b : Blk} (h : isLf b = true) : goodE (lfDec b) = true ∧ lfEnc (lfDec b) = b := by
  obtain ⟨-, h2, h3⟩ := isLf_parts h
  have e : lfDec b = enL b (lfN b) := by unfold lfDec; rw [if_pos h]
  rw [e]
  refine ⟨h2, ?_⟩
  unfold lfEnc
  rw [if_pos h2, h3]
theorem isLf_first {b : Blk} (h : isLf b = true) : at8 b 0 = 76 := by
  obtain ⟨-, -, h3⟩ := isLf_parts h
  rw [← h3, seal_at (by unfold lfB; simp), (lfB_at _).1]
theorem lf_inj {l m : List EN} (hl : ∀ x ∈ l, x.Ok) (hm : ∀ x ∈ m, x.Ok) (gl : goodE l = true) (gm : goodE m = true) : (lfEnc l == lfEnc m) = decide (l = m) := by
  rw [Bool.eq_iff_iff, beq_iff_eq, decide_eq_true_eq]
  constructor
  · intro h
    rw [← (lf_back hl gl).2, h, (lf_back hm gm).2]
  · rintro rfl; rfl

/-! ### roots -/
theorem goodR_iff {l : List Int} : goodR l = true ↔ (1 ≤ l.length ∧ l.length ≤ 100) ∧ okR l l.length := by
  unfold goodR
  rw [Bool.and_eq_true, decide_eq_true_eq, decide_eq_true_eq]
  refine and_congr_right fun _ => ?_
  constructor
  · rintro ⟨hn, hz⟩ j hj
    refine ⟨l[j], List.getElem?_eq_getElem hj, (hz _ (List.getElem_mem hj)).1, (hz _ (List.getElem_mem hj)).2, fun i hi e => ?_⟩
    have hil : i < l.length := by omega
    rw [List.getElem?_eq_getElem hil] at e
    injection e with e
    exact List.pairwise_iff_getElem.1 hn i j hil hj hi e
  · intro h
    refine ⟨List.pairwise_iff_getElem.2 fun i j hi hj hij e => ?_, fun z hz => ?_⟩
    · obtain ⟨z, ez, -, -, hne⟩ := h j hj
      refine hne i hij ?_
      rw [List.getElem?_eq_getElem hi, e, ← ez, List.getElem?_eq_getElem hj]
    · obtain ⟨j, hj, rfl⟩ := List.getElem_of_mem hz
      obtain ⟨z, ez, h1, h2, -⟩ := h j hj
      rw [List.getElem?_eq_getElem hj] at ez
      injection ez with ez
      rw [ez]; exact ⟨h1, h2⟩
theorem goodR_parts {l : List Int} (h : goodR l = true) : (1 ≤ l.length ∧ l.length ≤ 100) ∧ ∀ z ∈ l, 2 ≤ z ∧ z < 128 := by
  unfold goodR at h
  rw [Bool.and_eq_true, decide_eq_true_eq, decide_eq_true_eq] at h
  exact ⟨h.1, h.2.2⟩
theorem rtB_len (l : List Int) : (rtB l).length = 2 + l.length := by unfold rtB; rw [List.length_append, List.length_map]; rfl
theorem rtB_at (l : List Int) : at8 (rtB l) 0 = 82 ∧ at8 (rtB l) 1 = u8 (l.length : Int) := ⟨rfl, rfl⟩
theorem rtEnc_len (l : List Int) : (rtEnc l).length = 128 := by
  unfold rtEnc
  split
  · rename_i h
    have := (goodR_parts h).1
    exact sealB_len (by rw [rtB_len]; omega)
  · exact zblk_len
theorem map_u8 {l : List Int} (h : ∀ z ∈ l, 2 ≤ z ∧ z < 128) : (l.map u8).map (fun x => (x.toNat : Int)) = l := by
  rw [List.map_map]
  conv => rhs; rw [← List.map_id l]
  apply List.map_congr_left
  intro z hz
  have h1 := h z hz
  have h2 := u8_toNat z
  show ((u8 z).toNat : Int) = z
  omega
theorem rtN_enc {l : List Int} (h : goodR l = true) : lfN (rtEnc l) = l.length := by
  have h3 := (goodR_parts h).1
  unfold lfN rtEnc
  rw [if_pos h, seal_at (by rw [rtB_len]; omega), (rtB_at l).2]
  have := u8_toNat (l.length : Int)
  omega
theorem rtL_enc {l : List Int} (h : goodR l = true) : rtL (rtEnc l) = l := by
  unfold rtL
  rw [rtN_enc h]
  unfold rtEnc
  rw [if_pos h]
  obtain ⟨r, e⟩ := seal_app (rtB l)
  have e2 : ((sealB (rtB l)).drop 2).take l.length = l.map u8 := by
    rw [e]
    unfold rtB
    rw [List.append_assoc]
    show (l.map u8 ++ r).take l.length = _
    have : l.length = (l.map u8).length := by rw [List.length_map]
    rw [this, List.take_left]
  rw [e2, map_u8 (goodR_parts h).2]
theorem rt_back {l : List Int} (h : goodR l = true) : isRt (rtEnc l) = true ∧ rtDec (rtEnc l) = l := by
  have h3 := (goodR_parts h).1
  have h1 : isRt (rtEnc l) = true := by
    unfold isRt
    rw [rtN_enc h, rtL_enc h, h, decide_eq_true h3.2]
    unfold rtEnc
    rw [if_pos h, beq_self_eq_true]
    rfl
  refine ⟨h1, ?_⟩
  unfold rtDec
  rw [if_pos h1, rtL_enc h]
theorem isRt_first {b : Blk} (h : isRt b = true) : at8 b 0 = 82 := by
  unfold isRt at h
  rw [Bool.and_eq_true, Bool.and_eq_true, decide_eq_true_eq, beq_iff_eq] at h
  rw [← h.2.2, seal_at (by rw [rtB_len]; omega), (rtB_at _).1]
theorem lf_noRt {l : List EN} (hok : ∀ x ∈ l, x.Ok) (h : goodE l = true) : isRt (lfEnc l) = false := by
  cases hi : isRt (lfEnc l)
  · rfl
  · have h1 := isRt_first hi
    rw [isLf_first (lf_back hok h).1] at h1
    cases h1
theorem rt_noLf {l : List Int} (h : goodR l = true) : isLf (rtEnc l) = false := by
  cases hi : isLf (rtEnc l)
  · rfl
  · have h1 := isLf_first hi
    rw [isRt_first (rt_back h).1] at h1
    cases h1
/-! ### orders -/
theorem chain_le : ∀ {l : List EN} {i : Nat} {x y : EN}, chain l = true → l[i]? = some x → l[i + 1]? = some y → lt8 x.key y.key = true := by
  intro l i x y h hx hy
  have hi := (List.getElem?_eq_some_iff.1 hy).1
  obtain ⟨z, ez, -, hz⟩ := (chain_iff l).1 h (i + 1) hi
  obtain ⟨q, eq, hq⟩ := hz (by omega)
  rw [Nat.add_sub_cancel, hx] at eq
  rw [hy] at ez
  injection eq with eq
  injection ez with ez
  rw [eq, ez]; exact hq
theorem good_rev {l : List EN} (h : goodE l = true) (h2 : 2 ≤ l.length) : goodE l.reverse = false := by
  obtain ⟨-, hc⟩ := goodE_parts h
  cases hg : goodE l.reverse
  · rfl
  · obtain ⟨-, hr⟩ := goodE_parts hg
    have h0 : l.reverse[0]? = some l[l.length - 1] := by rw [List.getElem?_reverse (by omega), Nat.sub_zero, List.getElem?_eq_getElem (by omega)]
    have h1 : l.reverse[0 + 1]? = some l[l.length - 2] := by rw [List.getElem?_reverse (by omega), show l.length - 1 - (0 + 1) = l.length - 2 by omega, List.getElem?_eq_getElem (by omega)]
    have a := chain_le hr h0 h1
    have b := chain_le (i := l.length - 2) hc (List.getElem?_eq_getElem (by omega)) (y := l[l.length - 1]) (by rw [show l.length - 2 + 1 = l.length - 1 by omega, List.getElem?_eq_getElem (by omega)])
    have := lt8_trans a b
    rw [lt8_irrefl] at this
    cases this
theorem good_twice (x : EN) : goodE [x, x] = false := by
  unfold goodE chain
  rw [lt8_irrefl, Bool.and_false, Bool.false_and, Bool.and_false]
theorem chain_tail {x : EN} {l : List EN} (h : chain (x :: l) = true) : chain l = true := by
  cases l with
  | nil => rfl
  | cons y l =>
    unfold chain at h
    rw [Bool.and_eq_true] at h
    exact h.2
theorem good_tail {l : List EN} (h : goodE l = true) (h2 : 2 ≤ l.length) : goodE (l.drop 1) = true := by
  obtain ⟨h3, hc⟩ := goodE_parts h
  cases l with
  | nil => simp at h2
  | cons x l =>
    simp only [List.length_cons] at h2 h3
    unfold goodE
    rw [List.drop_succ_cons, List.drop_zero, chain_tail hc, decide_eq_true (by omega)]
    rfl
theorem good_head {l : List EN} (h : goodE l = true) (h2 : 2 ≤ l.length) : goodE (l.take 1) = true := by
  obtain ⟨h3, hc⟩ := goodE_parts h
  cases l with
  | nil => simp at h2
  | cons x l =>
    have := chain_one hc x (by simp)
    unfold goodE
    rw [List.take_succ_cons, List.take_zero]
    unfold chain
    rw [this]
    rfl
theorem good_more {l : List EN} (h2 : 2 ≤ l.length) : goodE (l ++ l) = false := by
  unfold goodE
  rw [decide_eq_false (by rw [List.length_append]; omega), Bool.false_and]
end Go.Proofs.Ythmjkgpfnpdddaa
