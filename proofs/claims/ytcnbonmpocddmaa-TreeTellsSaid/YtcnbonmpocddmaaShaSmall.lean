
/- The walks over the small functions of sha and its reference: Less, Of, Check, and codexkeep.Bytes. -/
import Derived.Test.YtcnbonmpocddmaaShaRSum
import Derived.Great.Ranges
import Derived.Lib.BytesEntry
import Derived.Laws.Externs
import Derived.Laws.Cover3
import Derived.Lib.Bytealg
namespace Go.Proofs.Ytcnbonmpocddmaa
set_option linter.unusedSimpArgs false
set_option linter.unusedVariables false
open Go.RowKit
attribute [-go_sem] Builtin.append_

/-! ### order of texts -/
abbrev lt8 (a b : List UInt8) : Bool := Op.bytesLess a b
theorem u8_lt_asymm {a b : UInt8} (h : a < b) : ¬ b < a := by rw [UInt8.lt_iff_toNat_lt] at *; omega
theorem u8_tri (a b : UInt8) : a < b ∨ a = b ∨ b < a := by
  rw [UInt8.lt_iff_toNat_lt, UInt8.lt_iff_toNat_lt, ← UInt8.toNat_inj]; omega
theorem cmp_lt (x y : List UInt8) : decide (Lib.compareBytes x y < 0) = lt8 x y := by
  induction x generalizing y with
  | nil => cases y <;> simp [Lib.compareBytes, Op.bytesLess]
  | cons a x ih =>
    cases y with
    | nil => simp [Lib.compareBytes, Op.bytesLess]
    | cons b y =>
      unfold lt8 at ih ⊢
      unfold Lib.compareBytes Op.bytesLess
      rcases u8_tri a b with h | h | h
      · simp [h]
      · subst h
        have h1 : ¬ a < a := fun h => u8_lt_asymm h h
        simp only [if_neg h1, h1, decide_false, Bool.false_or, beq_self_eq_true, Bool.true_and]
        exact ih y
      · have h1 := u8_lt_asymm h
        have h2 : (a == b) = false := by
          rw [beq_eq_false_iff_ne]; intro e; subst e; exact h1 h
        simp [h, h1, h2]
theorem lt8_irrefl (x : List UInt8) : lt8 x x = false := by
  unfold lt8
  induction x with
  | nil => rfl
  | cons a x ih =>
    have h1 : ¬ a < a := fun h => u8_lt_asymm h h
    unfold Op.bytesLess
    simp [h1, ih]
theorem lt8_cons (a b : UInt8) (x y : List UInt8) : lt8 (a :: x) (b :: y) = true ↔ a < b ∨ (a = b ∧ lt8 x y = true) := by
  unfold lt8
  conv => lhs; unfold Op.bytesLess
  simp
theorem lt8_trans {x y z : List UInt8} (h1 : lt8 x y = true) (h2 : lt8 y z = true) : lt8 x z = true := by
  induction x generalizing y z with
  | nil =>
    cases y with
    | nil => cases h1
    | cons b y =>
      cases z with
      | nil => cases h2
      | cons c z => rfl
  | cons a x ih =>
    cases y with
    | nil => cases h1
    | cons b y =>
      cases z with
      | nil => cases h2
      | cons c z =>
        rw [lt8_cons] at h1 h2 ⊢
        rcases h1 with h1 | ⟨rfl, h1⟩
        · rcases h2 with h2 | ⟨rfl, h2⟩
          · left; rw [UInt8.lt_iff_toNat_lt] at *; omega
          · exact .inl h1
        · rcases h2 with h2 | ⟨rfl, h2⟩
          · exact .inl h2
          · exact .inr ⟨rfl, ih h1 h2⟩
theorem lt8_asymm {x y : List UInt8} (h : lt8 x y = true) : lt8 y x = false := by
  cases h2 : lt8 y x with
  | false => rfl
  | true => have := lt8_trans h h2; rw [lt8_irrefl] at this; cases this
theorem lt8_total (x y : List UInt8) : lt8 x y = true ∨ x = y ∨ lt8 y x = true := by
  induction x generalizing y with
  | nil =>
    cases y with
    | nil => exact .inr (.inl rfl)
    | cons b y => exact .inl rfl
  | cons a x ih =>
    cases y with
    | nil => exact .inr (.inr rfl)
    | cons b y =>
      rw [lt8_cons, lt8_cons]
      rcases u8_tri a b with h | h | h
      · exact .inl (.inl h)
      · subst h
        rcases ih y with h | h | h
        · exact .inl (.inr ⟨rfl, h⟩)
        · subst h; exact .inr (.inl rfl)
        · exact .inr (.inr (.inr ⟨rfl, h⟩))
      · exact .inr (.inr (.inl h))

/-! ### texts -/
theorem run_str {P : Program} {w : World} {B n : Nat} {A : Option Addr} {l : List UInt8} (h : Sl w B 1 A n (bvs l)) (c : Nat) {src dst e : TypeId} (hs : P.underlying src = some (.slice e)) (he : P.underlying e = some (.int .u8)) (hd : P.underlying dst = some .string) :
    (convert src dst (.slice A n c)).run P w = .ok (.string ⟨l.toArray⟩) w := by
  have hl : l.length = n := by have := h.len; rw [bvs_len] at this; omega
  rcases A with _ | a
  · have : n = 0 := by
      rcases Nat.eq_zero_or_pos n with h0 | h0
      · exact h0
      · obtain ⟨b, o, e, _⟩ := h.at_ h0; cases e
    subst this
    obtain rfl : l = [] := List.eq_nil_of_length_eq_zero hl
    rw [run_convert_bytes_nil w src e hs he 0 c dst hd]
    rfl
  · subst hl
    refine run_convert_bytes_back w src dst e a c l hs he hd (fun j hj => ?_)
    obtain ⟨b, o, e, _, hr⟩ := h.at_ (by omega)
    injection e with e
    subst e
    rw [Addr.add_mid]
    exact hr j _ (by simp [bvs, bv, hj])
theorem bytes_any (A B : Option Addr) (n m c c' BA BB : Nat) (xs ys : List UInt8) (w : World) (h1 : Sl w BA 1 A n (bvs xs)) (h2 : Sl w BB 1 B m (bvs ys)) :
    Calls Try.prog 14 #[.slice A n c, .slice B m c'] w fun e w' => e = .returned (.bool (decide (xs = ys))) ∧ w = w' := by
  have k1 := run_str (P := Try.prog) (dst := 9) h1 c Try.underlying23 Try.underlying5 Try.underlying9
  have k2 := run_str (P := Try.prog) (dst := 9) h2 c' Try.underlying23 Try.underlying5 Try.underlying9
  go_enter Try.func14, Try.ntmps14
  go_wp2
  go_ret
  exact ⟨ret_bool (by rw [Bool.eq_iff_iff]; simp), rfl⟩
theorem bytesOf_ints (l : List UInt8) : Lib.bytesOf (l.map fun b => (b.toNat : Int)) = l := by
  unfold Lib.bytesOf
  rw [List.map_map]
  conv => rhs; rw [← List.map_id l]
  apply List.map_congr_left
  intro a _
  simp
theorem run_bytesOf {P : Program} {w : World} {B n : Nat} {A : Option Addr} {l : List UInt8} (h : Sl w B 1 A n (bvs l)) (c : Nat) : (Extern.Bytes.bytesOf (.slice A n c)).run P w = .ok ⟨l.toArray⟩ w := by
  have hl : l.length = n := by have := h.len; rw [bvs_len] at this; omega
  rcases A with _ | a
  · have : n = 0 := by
      rcases Nat.eq_zero_or_pos n with h0 | h0
      · exact h0
      · obtain ⟨b, o, e, _⟩ := h.at_ h0; cases e
    subst this
    obtain rfl : l = [] := List.eq_nil_of_length_eq_zero hl
    rfl
  · subst hl
    have := Lib.run_loadBytesX (P := P) w (l.map fun b => (b.toNat : Int)) a .empty (fun j x hj => by
      obtain ⟨b, o, e, _, hr⟩ := h.at_ (by have := (List.getElem?_eq_some_iff.1 hj).1; simp at this; omega)
      injection e with e
      subst e
      rw [Addr.add_mid]
      rw [List.getElem?_map] at hj
      obtain ⟨y, hy, rfl⟩ := Option.map_eq_some_iff.1 hj
      exact hr j _ (by simp [bvs, bv, hy]))
    rw [bytesOf_ints, List.length_map] at this
    unfold Extern.Bytes.bytesOf
    rw [this]
    simp
theorem run_compare {P : Program} {w : World} {B B' n m : Nat} {A A' : Option Addr} {x y : List UInt8} (h : Sl w B 1 A n (bvs x)) (h' : Sl w B' 1 A' m (bvs y)) (c c' : Nat) :
    (Extern.BytealgCompare.compare #[.slice A n c, .slice A' m c']).run P w = .ok (.int .i64 (Lib.compareBytes x y)) w := by
  change Sem.run P (do pure (goInt (Extern.BytealgCompare.cmp (← Extern.Bytes.bytesOf (.slice A n c)) (← Extern.Bytes.bytesOf (.slice A' m c'))))) w = _
  simp only [Sem.run_bind, Sem.run_pure, run_bytesOf h, run_bytesOf h', Result.andThen]
  rw [Lib.cmp_eq]
  rfl
theorem dg_sl {w : World} {g : Nat} {x : List UInt8} {t : TypeId} (hx : x.length = 32) (h : w.heap[g]? = some (.cells (bvs x).toArray t)) : Sl w w.heap.size 1 (some ⟨g, 0, none⟩) 32 (bvs x) :=
  Sl.new (cs := (bvs x).toArray) h (by rw [List.toList_toArray, bvs_len, hx])
/-! ### a kind and a body; a check -/
theorem own_one (w : World) (base : Nat) (e : TypeId) (v : Value) (hb : base ≤ w.heap.size) : (w.alloc (.cells #[v] e)).ownsRow base e 1 (.slice (some ⟨w.heap.size, 0, none⟩) 1 1) 1 [v] :=
  ⟨rfl, .inr ⟨w.heap.size, 1, #[v], rfl, hb, heap_alloc_new _ _, Nat.le_refl _, by simp [maxLen], rfl, rfl⟩⟩
set_option maxHeartbeats 2000000 in
set_option maxRecDepth 100000 in
theorem of_any {kind : Int} {l : List UInt8} {A : Option Addr} {B c : Nat} (hl : l.length ≤ 1000000000) (w : World) (hB : B ≤ w.heap.size) (hs : Sl w B 1 A l.length (bvs l)) :
    Calls Try.prog 20 #[.int .i64 kind, .slice A l.length c] w (Ret w (.agg (bvs (sha (u8 kind :: l))).toArray)) := by
  have hsum := fun W A B c h1 h2 => sum_any (l := u8 kind :: l) (A := A) (B := B) (c := c) (by simp; omega) W h1 h2
  have hrl := sha_len (u8 kind :: l)
  have hbc : bvs (u8 kind :: l) = [.int .u8 (kind % 256)] ++ bvs l := by show bv (u8 kind) :: bvs l = _; rw [bv_u8]; rfl
  have hlc : (u8 kind :: l).length = 1 + l.length := by simp; omega
  rw [hbc, hlc] at hsum
  obtain ⟨RV, hRV⟩ : ∃ r, sha (u8 kind :: l) = r := ⟨_, rfl⟩
  rw [hRV] at hsum hrl ⊢
  clear hbc hlc hRV
  go_enter Try.func20, Try.ntmps20
  obtain ⟨z32, hz⟩ : ∃ z, zs 32 = z := ⟨_, rfl⟩
  have hzl : z32.length = 32 := by rw [← hz]; rfl
  have hzZ := d32Z
  rw [hz] at hzZ
  clear hz
  go_upto_region 1 with (first
    | (refine wpList_new rfl hzZ rfl ?_)
    | fail)
  generalize hW0 : World.alloc w _ = W0
  have a00 : W0.heap[w.heap.size]? = some (.cells (bvs z32).toArray 40) := by rw [← hW0]; exact heap_alloc_new _ _
  have hwz : w.heap.size < W0.heap.size := by rw [← hW0]; simp
  have hB0 : Below w.heap.size w W0 := by rw [← hW0]; exact (Below.refl _ _).alloc (Nat.le_refl _) _
  clear hW0
  have hs0 := ((hs.mono hB).below hB0).mono (show w.heap.size ≤ W0.heap.size by omega)
  clear hs
  go_wp2_with (first
    | (at_builtin; refine wpList_app _ rfl (.tmp 7) (.tmp 8) 23 rfl Try.underlying23 elemU8 rfl (own_one W0 (w.heap.size + 1) _ _ (by omega)) rfl (hs0.below ((Below.refl _ _).alloc (Nat.le_refl _) _)) (oneCell_bvs _) (by simp only [maxLen]; omega) (by omega) (by rw [World.size_alloc]; omega) ?_; intro A1 c1 w1 hown hg1 hb1 hat1)
    | (go_at_call 25; refine (hsum _ _ _ _ (Nat.le_refl _) (Sl.of_own hown)).mono ?_; rintro e w2 ⟨rfl, hb2⟩)
    | (refine wpList_store_row rfl 40 (.tmp 4) (.tmp 10) rfl _ (bvs RV).toArray rfl rfl _ (bvs z32).toArray (bBlk hb2 (by have := hb1.size; simp at this; omega) (bBlk hb1 (Nat.lt_succ_self _) (bBlk ((Below.refl _ W0).alloc (Nat.le_refl _) _) hwz a00))) (d32_info hrl) (by rw [List.size_toArray, List.size_toArray, bvs_len, bvs_len, hzl, hrl]) (all_oneCell_toArray (oneCell_bvs _)) ?_)
    | fail)
  have b0 := bBlk hb2 (by have := hb1.size; simp at this; omega) (bBlk hb1 (Nat.lt_succ_self _) (bBlk ((Below.refl _ W0).alloc (Nat.le_refl _) _) hwz a00))
  have hB2 : Below w.heap.size w w2 := (hB0.trans (((Below.refl _ W0).alloc (Nat.le_refl _) _).mono (by omega))).trans ((hb1.mono (by simp)).trans (hb2.mono (by have := hb1.size; simp at this; omega)))
  generalize hX : World.setRow _ _ _ = X9
  have b9 : X9.heap[w.heap.size]? = some (.cells (bvs RV).toArray 40) := by rw [← hX]; exact setRow_heap _ _ _ _ _ _ b0
  have hBX : Below w.heap.size w X9 := by rw [← hX]; exact bSetRow hB2 (Nat.le_refl _) _
  clear hX
  have hld := run_loadVar_row (P := Try.prog) X9 _ _ 40 _ _ _ b9 Try.underlying40 rfl (d32_info hrl)
  refine bodyPost_ret (by simp [results, Try.results20, Act.put, asAddr, Result.andThen, hld]; try rfl) rfl ?_
  exact Ret.mk rfl hBX
set_option maxHeartbeats 2000000 in
set_option maxRecDepth 100000 in
theorem rof_any {kind : Int} {l : List UInt8} {A : Option Addr} {B c : Nat} (hl : l.length ≤ 1000000000) (w : World) (hB : B ≤ w.heap.size) (hs : Sl w B 1 A l.length (bvs l)) :
    Calls Try.prog 24 #[.int .i64 kind, .slice A l.length c] w (Ret w (.agg (bvs (sha (u8 kind :: l))).toArray)) := by
  have hsum := fun W A B c h1 h2 => rsum_any (l := u8 kind :: l) (A := A) (B := B) (c := c) (by simp; omega) W h1 h2
  have hrl := sha_len (u8 kind :: l)
  have hbc : bvs (u8 kind :: l) = [.int .u8 (kind % 256)] ++ bvs l := by show bv (u8 kind) :: bvs l = _; rw [bv_u8]; rfl
  have hlc : (u8 kind :: l).length = 1 + l.length := by simp; omega
  rw [hbc, hlc] at hsum
  obtain ⟨RV, hRV⟩ : ∃ r, sha (u8 kind :: l) = r := ⟨_, rfl⟩
  rw [hRV] at hsum hrl ⊢
  clear hbc hlc hRV
  go_enter Try.func24, Try.ntmps24
  obtain ⟨z32, hz⟩ : ∃ z, zs 32 = z := ⟨_, rfl⟩
  have hzl : z32.length = 32 := by rw [← hz]; rfl
  have hzZ := d32Z
  rw [hz] at hzZ
  clear hz
  go_upto_region 1 with (first
    | (refine wpList_new rfl hzZ rfl ?_)
    | fail)
  generalize hW0 : World.alloc w _ = W0
  have a00 : W0.heap[w.heap.size]? = some (.cells (bvs z32).toArray 40) := by rw [← hW0]; exact heap_alloc_new _ _
  have hwz : w.heap.size < W0.heap.size := by rw [← hW0]; simp
  have hB0 : Below w.heap.size w W0 := by rw [← hW0]; exact (Below.refl _ _).alloc (Nat.le_refl _) _
  clear hW0
  have hs0 := ((hs.mono hB).below hB0).mono (show w.heap.size ≤ W0.heap.size by omega)
  clear hs
  go_wp2_with (first
    | (at_builtin; refine wpList_app _ rfl (.tmp 7) (.tmp 8) 23 rfl Try.underlying23 elemU8 rfl (own_one W0 (w.heap.size + 1) _ _ (by omega)) rfl (hs0.below ((Below.refl _ _).alloc (Nat.le_refl _) _)) (oneCell_bvs _) (by simp only [maxLen]; omega) (by omega) (by rw [World.size_alloc]; omega) ?_; intro A1 c1 w1 hown hg1 hb1 hat1)
    | (go_at_call 29; refine (hsum _ _ _ _ (Nat.le_refl _) (Sl.of_own hown)).mono ?_; rintro e w2 ⟨rfl, hb2⟩)
    | (refine wpList_store_row rfl 40 (.tmp 4) (.tmp 10) rfl _ (bvs RV).toArray rfl rfl _ (bvs z32).toArray (bBlk hb2 (by have := hb1.size; simp at this; omega) (bBlk hb1 (Nat.lt_succ_self _) (bBlk ((Below.refl _ W0).alloc (Nat.le_refl _) _) hwz a00))) (d32_info hrl) (by rw [List.size_toArray, List.size_toArray, bvs_len, bvs_len, hzl, hrl]) (all_oneCell_toArray (oneCell_bvs _)) ?_)
    | fail)
  have b0 := bBlk hb2 (by have := hb1.size; simp at this; omega) (bBlk hb1 (Nat.lt_succ_self _) (bBlk ((Below.refl _ W0).alloc (Nat.le_refl _) _) hwz a00))
  have hB2 : Below w.heap.size w w2 := (hB0.trans (((Below.refl _ W0).alloc (Nat.le_refl _) _).mono (by omega))).trans ((hb1.mono (by simp)).trans (hb2.mono (by have := hb1.size; simp at this; omega)))
  generalize hX : World.setRow _ _ _ = X9
  have b9 : X9.heap[w.heap.size]? = some (.cells (bvs RV).toArray 40) := by rw [← hX]; exact setRow_heap _ _ _ _ _ _ b0
  have hBX : Below w.heap.size w X9 := by rw [← hX]; exact bSetRow hB2 (Nat.le_refl _) _
  clear hX
  have hld := run_loadVar_row (P := Try.prog) X9 _ _ 40 _ _ _ b9 Try.underlying40 rfl (d32_info hrl)
  refine bodyPost_ret (by simp [results, Try.results24, Act.put, asAddr, Result.andThen, hld]; try rfl) rfl ?_
  exact Ret.mk rfl hBX
end Go.Proofs.Ytcnbonmpocddmaa
