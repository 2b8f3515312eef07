
/- The walks over the small functions of sha and its reference: Less, Of, Check, and codexkeep.Bytes. -/
import Derived.Test.YthmjkgpfnpdddaaShaRSum
import Derived.Great.Ranges
import Derived.Lib.BytesEntry
import Derived.Laws.Externs
import Derived.Laws.Cover3
import Derived.Lib.Bytealg
namespace Go.Proofs.Ythmjkgpfnpdddaa
set_option linter.unusedSimpArgs false
set_option linter.unusedVariables false
open Go.RowKit
attribute [-go_sem] Builtin.append_

/-! ### order of texts -/
abbrev lt8 (a b : List UInt8) : Bool := Op.bytesLess a b
theorem u8_lt_asymm {a b : UInt8} (h : a < b) : ¬ b < a := by rw [UInt8.lt_iff_toNat_lt] at *; omega
theorem u8_tri (a b : UInt8) : a < b ∨ a = b ∨ b < a := by
  rw [UInt8.lt_iff_toNat_lt, UInt8.lt_iff_toNat_lt, ← UInt8.toNat_inj]; omega
theorem cmp_lt (x y : List UInt8) : decide (Lib.compareBytes x y < 0) = lt8 x y := by
  induction x generalizing y with
  | nil => cases y <;> simp [Lib.compareBytes, Op.bytesLess]
  | cons a x ih =>
    cases y with
    | nil => simp [Lib.compareBytes, Op.bytesLess]
    | cons b y =>
      unfold lt8 at ih ⊢
      unfold Lib.compareBytes Op.bytesLess
      rcases u8_tri a b with h | h | h
      · simp [h]
      · subst h
        have h1 : ¬ a < a := fun h => u8_lt_asymm h h
        simp only [if_neg h1, h1, decide_false, Bool.false_or, beq_self_eq_true, Bool.true_and]
        exact ih y
      · have h1 := u8_lt_asymm h
        have h2 : (a == b) = false := by
          rw [beq_eq_false_iff_ne]; intro e; subst e; exact h1 h
        simp [h, h1, h2]
theorem lt8_irrefl (x : List UInt8) : lt8 x x = false := by
  unfold lt8
  induction x with
  | nil => rfl
  | cons a x ih =>
    have h1 : ¬ a < a := fun h => u8_lt_asymm h h
    unfold Op.bytesLess
    simp [h1, ih]
theorem lt8_cons (a b : UInt8) (x y : List UInt8) : lt8 (a :: x) (b :: y) = true ↔ a < b ∨ (a = b ∧ lt8 x y = true) := by
  unfold lt8
  conv => lhs; unfold Op.bytesLess
  simp
theorem lt8_trans {x y z : List UInt8} (h1 : lt8 x y = true) (h2 : lt8 y z = true) : lt8 x z = true := by
  induction x generalizing y z with
  | nil =>
    cases y with
    | nil => cases h1
    | cons b y =>
      cases z with
      | nil => cases h2
      | cons c z => rfl
  | cons a x ih =>
    cases y with
    | nil => cases h1
    | cons b y =>
      cases z with
      | nil => cases h2
      | cons c z =>
        rw [lt8_cons] at h1 h2 ⊢
        rcases h1 with h1 | ⟨rfl, h1⟩
        · rcases h2 with h2 | ⟨rfl, h2⟩
          · left; rw [UInt8.lt_iff_toNat_lt] at *; omega
          · exact .inl h1
        · rcases h2 with h2 | ⟨rfl, h2⟩
          · exact .inl h2
          · exact .inr ⟨rfl, ih h1 h2⟩
theorem lt8_asymm {x y : List UInt8} (h : lt8 x y = true) : lt8 y x = false := by
  cases h2 : lt8 y x with
  | false => rfl
  | true => have := lt8_trans h h2; rw [lt8_irrefl] at this; cases this
theorem lt8_total (x y : List UInt8) : lt8 x y = true ∨ x = y ∨ lt8 y x = true := by
  induction x generalizing y with
  | nil =>
    cases y with
    | nil => exact .inr (.inl rfl)
    | cons b y => exact .inl rfl
  | cons a x ih =>
    cases y with
    | nil => exact .inr (.inr rfl)
    | cons b y =>
      rw [lt8_cons, lt8_cons]
      rcases u8_tri a b with h | h | h
      · exact .inl (.inl h)
      · subst h
        rcases ih y with h | h | h
        · exact .inl (.inr ⟨rfl, h⟩)
        · subst h; exact .inr (.inl rfl)
        · exact .inr (.inr (.inr ⟨rfl, h⟩))
      · exact .inr (.inr (.inl h))

/-! ### texts -/
theorem run_str {P : Program} {w : World} {B n : Nat} {A : Option Addr} {l : List UInt8} (h : Sl w B 1 A n (bvs l)) (c : Nat) {src dst e : TypeId} (hs : P.underlying src = some (.slice e)) (he : P.underlying e = some (.int .u8)) (hd : P.underlying dst = some .string) :
    (convert src dst (.slice A n c)).run P w = .ok (.string ⟨l.toArray⟩) w := by
  have hl : l.length = n := by have := h.len; rw [bvs_len] at this; omega
  rcases A with _ | a
  · have : n = 0 := by
      rcases Nat.eq_zero_or_pos n with h0 | h0
      · exact h0
      · obtain ⟨b, o, e, _⟩ := h.at_ h0; cases e
    subst this
    obtain rfl : l = [] := List.eq_nil_of_length_eq_zero hl
    rw [run_convert_bytes_nil w src e hs he 0 c dst hd]
    rfl
  · subst hl
    refine run_convert_bytes_back w src dst e a c l hs he hd (fun j hj => ?_)
    obtain ⟨b, o, e, _, hr⟩ := h.at_ (by omega)
    injection e with e
    subst e
    rw [Addr.add_mid]
    exact hr j _ (by simp [bvs, bv, hj])
theorem bytes_any (A B : Option Addr) (n m c c' BA BB : Nat) (xs ys : List UInt8) (w : World) (h1 : Sl w BA 1 A n (bvs xs)) (h2 : Sl w BB 1 B m (bvs ys)) :
    Calls Try.prog 19 #[.slice A n c, .slice B m c'] w fun e w' => e = .returned (.bool (decide (xs = ys))) ∧ w = w' := by
  have k1 := run_str (P := Try.prog) (dst := 9) h1 c Try.underlying22 Try.underlying5 Try.underlying9
  have k2 := run_str (P := Try.prog) (dst := 9) h2 c' Try.underlying22 Try.underlying5 Try.underlying9
  go_enter Try.func19, Try.ntmps19
  go_wp2
  go_ret
  exact ⟨ret_bool (by rw [Bool.eq_iff_iff]; simp), rfl⟩
theorem bytesOf_ints (l : List UInt8) : Lib.bytesOf (l.map fun b => (b.toNat : Int)) = l := by
  unfold Lib.bytesOf
  rw [List.map_map]
  conv => rhs; rw [← List.map_id l]
  apply List.map_congr_left
  intro a _
  simp
theorem run_bytesOf {P : Program} {w : World} {B n : Nat} {A : Option Addr} {l : List UInt8} (h : Sl w B 1 A n (bvs l)) (c : Nat) : (Extern.Bytes.bytesOf (.slice A n c)).run P w = .ok ⟨l.toArray⟩ w := by
  have hl : l.length = n := by have := h.len; rw [bvs_len] at this; omega
  rcases A with _ | a
  · have : n = 0 := by
      rcases Nat.eq_zero_or_pos n with h0 | h0
      · exact h0
      · obtain ⟨b, o, e, _⟩ := h.at_ h0; cases e
    subst this
    obtain rfl : l = [] := List.eq_nil_of_length_eq_zero hl
    rfl
  · subst hl
    have := Lib.run_loadBytesX (P := P) w (l.map fun b => (b.toNat : Int)) a .empty (fun j x hj => by
      obtain ⟨b, o, e, _, hr⟩ := h.at_ (by have := (List.getElem?_eq_some_iff.1 hj).1; simp at this; omega)
      injection e with e
      subst e
      rw [Addr.add_mid]
      rw [List.getElem?_map] at hj
      obtain ⟨y, hy, rfl⟩ := Option.map_eq_some_iff.1 hj
      exact hr j _ (by simp [bvs, bv, hy]))
    rw [bytesOf_ints, List.length_map] at this
    unfold Extern.Bytes.bytesOf
    rw [this]
    simp
theorem run_compare {P : Program} {w : World} {B B' n m : Nat} {A A' : Option Addr} {x y : List UInt8} (h : Sl w B 1 A n (bvs x)) (h' : Sl w B' 1 A' m (bvs y)) (c c' : Nat) :
    (Extern.BytealgCompare.compare #[.slice A n c, .slice A' m c']).run P w = .ok (.int .i64 (Lib.compareBytes x y)) w := by
  change Sem.run P (do pure (goInt (Extern.BytealgCompare.cmp (← Extern.Bytes.bytesOf (.slice A n c)) (← Extern.Bytes.bytesOf (.slice A' m c'))))) w = _
  simp only [Sem.run_bind, Sem.run_pure, run_bytesOf h, run_bytesOf h', Result.andThen]
  rw [Lib.cmp_eq]
  rfl
set_option maxRecDepth 100000 in
theorem cmp_any {w : World} {B B' n m c c' : Nat} {A A' : Option Addr} {x y : List UInt8} (h : Sl w B 1 A n (bvs x)) (h' : Sl w B' 1 A' m (bvs y)) :
    Calls Try.prog 61 #[.slice A n c, .slice A' m c'] w fun e w' => e = .returned (.int .i64 (Lib.compareBytes x y)) ∧ w = w' := by
  go_enter Try.func61, Try.ntmps61
  go_wp2
  rw [run_callFunc_extern Try.func67 (by kernel_rfl) (by kernel_rfl) (by kernel_rfl) (e := Extern.BytealgCompare.compare) (by kernel_rfl), run_compare h h']
  simp only [Result.andThen]
  rw [Oper.upon_value]
  go_wp2
  go_ret
  exact ⟨rfl, rfl⟩
theorem dg_sl {w : World} {g : Nat} {x : List UInt8} {t : TypeId} (hx : x.length = 32) (h : w.heap[g]? = some (.cells (bvs x).toArray t)) : Sl w w.heap.size 1 (some ⟨g, 0, none⟩) 32 (bvs x) :=
  Sl.new (cs := (bvs x).toArray) h (by rw [List.toList_toArray, bvs_len, hx])
set_option maxHeartbeats 2000000 in
set_option maxRecDepth 100000 in
theorem less_any {x y : List UInt8} (hx : x.length = 32) (hy : y.length = 32) (w : World) : Calls Try.prog 48 #[.agg (bvs x).toArray, .agg (bvs y).toArray] w (Ret w (.bool (lt8 x y))) := by
  go_enter Try.func48, Try.ntmps48
  go_upto_region 1 with (first
    | (refine Great.wpList_boxTo rfl 71 (.tmp 0) rfl _ rfl _ rfl (bvs x).toArray rfl ?_)
    | (refine Great.wpList_boxTo rfl 71 (.tmp 1) rfl _ rfl _ rfl (bvs y).toArray rfl ?_)
    | fail)
  generalize hV : World.alloc (World.alloc w _) _ = V
  have a0 : V.heap[w.heap.size]? = some (.cells (bvs x).toArray 71) := by rw [← hV]; exact heap_alloc_fst _ _ _
  have a1 : V.heap[w.heap.size + 1]? = some (.cells (bvs y).toArray 71) := by rw [← hV]; exact heap_alloc_two _ _ _
  have hB : Below w.heap.size w V := by rw [← hV]; exact ((Below.refl _ _).alloc (Nat.le_refl _) _).alloc (by simp) _
  clear hV
  have s0 := dg_sl hx a0
  have s1 := dg_sl hy a1
  have hc := cmp_lt x y
  refine wp_region_quiet_lit (by kernel_rfl) (by kernel_rfl) ?_
  iterate 2 (quiet_step (fail))
  quiet_step ((go_at_call 61; exact q_same (cmp_any (s0.drewN _) (s1.drewN _))))
  iterate 2 (quiet_step (fail))
  refine wpQuiet_nil ?_
  intro _ hw'
  obtain ⟨nq, hw''⟩ := hw'
  subst hw''
  go_wp2
  go_ret
  exact Ret.mk rfl (bDrewN hB _)
set_option maxHeartbeats 2000000 in
set_option maxRecDepth 100000 in
theorem rless_any {x y : List UInt8} (hx : x.length = 32) (hy : y.length = 32) (w : World) : Calls Try.prog 50 #[.agg (bvs x).toArray, .agg (bvs y).toArray] w (Ret w (.bool (lt8 x y))) := by
  go_enter Try.func50, Try.ntmps50
  go_upto_region 1 with (first
    | (refine Great.wpList_boxTo rfl 71 (.tmp 0) rfl _ rfl _ rfl (bvs x).toArray rfl ?_)
    | (refine Great.wpList_boxTo rfl 71 (.tmp 1) rfl _ rfl _ rfl (bvs y).toArray rfl ?_)
    | fail)
  generalize hV : World.alloc (World.alloc w _) _ = V
  have a0 : V.heap[w.heap.size]? = some (.cells (bvs x).toArray 71) := by rw [← hV]; exact heap_alloc_fst _ _ _
  have a1 : V.heap[w.heap.size + 1]? = some (.cells (bvs y).toArray 71) := by rw [← hV]; exact heap_alloc_two _ _ _
  have hB : Below w.heap.size w V := by rw [← hV]; exact ((Below.refl _ _).alloc (Nat.le_refl _) _).alloc (by simp) _
  clear hV
  have s0 := dg_sl hx a0
  have s1 := dg_sl hy a1
  have k0 := fun n => run_str (P := Try.prog) (dst := 9) (s0.drewN n) 32 Try.underlying22 Try.underlying5 Try.underlying9
  have k1 := fun n => run_str (P := Try.prog) (dst := 9) (s1.drewN n) 32 Try.underlying22 Try.underlying5 Try.underlying9
  have ex : ByteArray.toList ⟨x.toArray⟩ = x := by simp
  have ey : ByteArray.toList ⟨y.toArray⟩ = y := by simp
  refine wp_region_quiet_lit (by kernel_rfl) (by kernel_rfl) ?_
  iterate 6 (quiet_step (fail))
  refine wpQuiet_nil ?_
  intro _ hw'
  obtain ⟨nq, hw''⟩ := hw'
  subst hw''
  go_wp2
  go_ret
  exact Ret.mk (vbool (by first | rfl | simp)) (bDrewN hB _)

/-! ### a kind and a body; a check -/
theorem own_one (w : World) (base : Nat) (e : TypeId) (v : Value) (hb : base ≤ w.heap.size) : (w.alloc (.cells #[v] e)).ownsRow base e 1 (.slice (some ⟨w.heap.size, 0, none⟩) 1 1) 1 [v] :=
  ⟨rfl, .inr ⟨w.heap.size, 1, #[v], rfl, hb, heap_alloc_new _ _, Nat.le_refl _, by simp [maxLen], rfl, rfl⟩⟩
/-- the first bytes -/
def first4 (l : List UInt8) : List UInt8 := (sha l).take 4
theorem first4_len (l : List UInt8) : (first4 l).length = 4 := by unfold first4; rw [List.length_take, sha_len]; rfl
theorem d4Z : ZeroIs Try.prog 41 (bvs (zs 4)).toArray := by unfold ZeroIs; kernel_rfl
theorem d4_size : (Try.prog.info? 41).map (·.size) = some 4 := by kernel_rfl
theorem d4_info {l : List UInt8} (h : l.length = 4) : (Try.prog.info? 41).map (·.size) = some (bvs l).toArray.size := by rw [List.size_toArray, bvs_len, h]; exact d4_size
set_option maxHeartbeats 2000000 in
set_option maxRecDepth 100000 in
theorem check_any {l : List UInt8} {A : Option Addr} {B c : Nat} (hl : l.length ≤ 1000000000) (w : World) (hB : B ≤ w.heap.size) (hs : Sl w B 1 A l.length (bvs l)) :
    Calls Try.prog 22 #[.slice A l.length c] w (Ret w (.agg (bvs (first4 l)).toArray)) := by
  have hsum := fun W h1 h2 => sum_any (l := l) (A := A) (B := B) (c := c) (by omega) W h1 h2
  have hrl := sha_len l
  have h4l := first4_len l
  have hF : Hid (first4 l = (sha l).take 4) := Lib.hid rfl
  obtain ⟨RV, hRV⟩ : ∃ r, sha l = r := ⟨_, rfl⟩
  rw [hRV] at hsum hrl hF
  obtain ⟨F, hFe⟩ : ∃ r, first4 l = r := ⟨_, rfl⟩
  rw [hFe] at hF h4l ⊢
  clear hRV hFe
  go_enter Try.func22, Try.ntmps22
  obtain ⟨z32, hz⟩ : ∃ z, zs 32 = z := ⟨_, rfl⟩
  have hzl : z32.length = 32 := by rw [← hz]; rfl
  have hzZ := d32Z
  rw [hz] at hzZ
  clear hz
  obtain ⟨y4, hy⟩ : ∃ z, zs 4 = z := ⟨_, rfl⟩
  have hyl : y4.length = 4 := by rw [← hy]; rfl
  have hyZ := d4Z
  rw [hy] at hyZ
  clear hy
  go_upto_region 1 with (first
    | (refine wpList_new rfl hyZ rfl ?_)
    | fail)
  generalize hW0 : World.alloc w _ = W0
  have a00 : W0.heap[w.heap.size]? = some (.cells (bvs y4).toArray 41) := by rw [← hW0]; exact heap_alloc_new _ _
  have hwz : w.heap.size < W0.heap.size := by rw [← hW0]; simp
  have hB0 : Below w.heap.size w W0 := by rw [← hW0]; exact (Below.refl _ _).alloc (Nat.le_refl _) _
  clear hW0
  have hs0 := hs.below (hB0.mono hB)
  clear hs
  go_upto_region 2 with (first
    | (go_at_call 42; refine (hsum _ (by omega) hs0).mono ?_; rintro e w2 ⟨rfl, hb2⟩)
    | (refine wpList_new rfl hzZ rfl ?_)
    | (refine wpList_store_row rfl 71 (.tmp 3) (.tmp 5) rfl _ (bvs RV).toArray rfl rfl _ (bvs z32).toArray (heap_alloc_new _ _) (d32_info hrl) (by rw [List.size_toArray, List.size_toArray, bvs_len, bvs_len, hzl, hrl]) (all_oneCell_toArray (oneCell_bvs _)) ?_)
    | fail)
  generalize hX : World.setRow _ _ _ = X
  have a1 : X.heap[w2.heap.size]? = some (.cells (bvs RV).toArray 71) := by rw [← hX]; exact setRow_heap _ _ _ _ _ _ (heap_alloc_new _ _)
  have hbX : Below w2.heap.size w2 X := by rw [← hX]; exact bSetRow ((Below.refl _ _).alloc (Nat.le_refl _) _) (Nat.le_refl _) _
  have hz2 := hb2.size
  have a0 := bBlk hbX (by omega) (bBlk hb2 hwz a00)
  have hB2 := (hB0.trans (hb2.mono (by omega))).trans (hbX.mono (by omega))
  clear hX
  have har := fun W => run_arrayAt (P := Try.prog) (w := W) 41 5 4 (some ⟨w2.heap.size, 0, none⟩) 4 32 Try.underlying41 (Nat.le_refl 4)
  have hr4 : X.rangeAt w2.heap.size 0 (bvs F) := by
    have : bvs F = ((bvs RV).drop 0).take 4 := by rw [hF.out]; simp [bvs, List.map_take]
    rw [this]
    exact range_cut (cells_range a1) 0 4
  go_wp2_with (first
    | (refine wpList_load_mid rfl 41 (.tmp 7) rfl w2.heap.size 0 rfl (bvs F) _ hr4 Try.underlying41 rfl (by rw [bvs_len, h4l]; exact d4_size) ?_)
    | (refine wpList_store_row rfl 41 (.tmp 2) (.tmp 8) rfl _ (bvs F).toArray rfl rfl _ (bvs y4).toArray a0 (d4_info h4l) (by rw [List.size_toArray, List.size_toArray, bvs_len, bvs_len, hyl, h4l]) (all_oneCell_toArray (oneCell_bvs _)) ?_)
    | fail)
  generalize hX : World.setRow _ _ _ = X9
  have b9 : X9.heap[w.heap.size]? = some (.cells (bvs F).toArray 41) := by rw [← hX]; exact setRow_heap _ _ _ _ _ _ a0
  have hBX : Below w.heap.size w X9 := by rw [← hX]; exact bSetRow hB2 (Nat.le_refl _) _
  clear hX
  have hld := run_loadVar_row (P := Try.prog) X9 _ _ 41 _ _ _ b9 Try.underlying41 rfl (d4_info h4l)
  refine bodyPost_ret (by simp [results, Try.results22, Act.put, asAddr, Result.andThen, hld]; try rfl) rfl ?_
  exact Ret.mk rfl hBX
set_option maxHeartbeats 2000000 in
set_option maxRecDepth 100000 in
theorem rcheck_any {l : List UInt8} {A : Option Addr} {B c : Nat} (hl : l.length ≤ 1000000000) (w : World) (hB : B ≤ w.heap.size) (hs : Sl w B 1 A l.length (bvs l)) :
    Calls Try.prog 39 #[.slice A l.length c] w fun e w' => ∃ A' c', e = .returned (.slice A' 4 c') ∧ w'.ownsRow w.heap.size 5 1 (.slice A' 4 c') 4 (bvs (first4 l)) ∧ Below w.heap.size w w' := by
  have hsum := fun W h1 h2 => rsum_any (l := l) (A := A) (B := B) (c := c) (by omega) W h1 h2
  have hrl := sha_len l
  have h4l := first4_len l
  have hF : Hid (first4 l = (sha l).take 4) := Lib.hid rfl
  obtain ⟨RV, hRV⟩ : ∃ r, sha l = r := ⟨_, rfl⟩
  rw [hRV] at hsum hrl hF
  obtain ⟨F, hFe⟩ : ∃ r, first4 l = r := ⟨_, rfl⟩
  rw [hFe] at hF h4l ⊢
  clear hRV hFe
  go_enter Try.func39, Try.ntmps39
  obtain ⟨z32, hz⟩ : ∃ z, zs 32 = z := ⟨_, rfl⟩
  have hzl : z32.length = 32 := by rw [← hz]; rfl
  have hzZ := d32Z
  rw [hz] at hzZ
  clear hz
  go_upto_region 2 with (first
    | (go_at_call 54; refine (hsum _ hB hs).mono ?_; rintro e w2 ⟨rfl, hb2⟩)
    | (refine wpList_new rfl hzZ rfl ?_)
    | (refine wpList_store_row rfl 71 (.tmp 3) (.tmp 5) rfl _ (bvs RV).toArray rfl rfl _ (bvs z32).toArray (heap_alloc_new _ _) (d32_info hrl) (by rw [List.size_toArray, List.size_toArray, bvs_len, bvs_len, hzl, hrl]) (all_oneCell_toArray (oneCell_bvs _)) ?_)
    | fail)
  generalize hX : World.setRow _ _ _ = X
  have a1 : X.heap[w2.heap.size]? = some (.cells (bvs RV).toArray 71) := by rw [← hX]; exact setRow_heap _ _ _ _ _ _ (heap_alloc_new _ _)
  have hbX : Below w2.heap.size w2 X := by rw [← hX]; exact bSetRow ((Below.refl _ _).alloc (Nat.le_refl _) _) (Nat.le_refl _) _
  have hz2 := hb2.size
  have hB2 := hb2.trans (hbX.mono (by omega))
  have hzX : w2.heap.size < X.heap.size := (Array.getElem?_eq_some_iff.1 a1).1
  clear hX
  have hr4 : Sl X X.heap.size 1 (some ⟨w2.heap.size, 0, none⟩) 4 (bvs F) := by
    refine ⟨by rw [bvs_len, h4l], fun _ => ⟨_, 0, rfl, hzX, ?_⟩⟩
    have : bvs F = ((bvs RV).drop 0).take 4 := by rw [hF.out]; simp [bvs, List.map_take]
    rw [this]
    exact range_cut (cells_range a1) 0 4
  go_wp2_with (first
    | (at_builtin; refine wpList_app _ rfl (.tmp 6) (.tmp 7) 22 rfl Try.underlying22 elemU8 rfl (own_none' X w.heap.size _ _ (by omega)) rfl (hr4.below ((Below.refl _ _).alloc (Nat.le_refl _) _)) (oneCell_bvs _) (by simp only [maxLen]; omega) (by omega) (by rw [World.size_alloc]; omega) ?_; intro A1 c1 w1 hown hg1 hb1 hat1)
    | fail)
  simp only [Nat.zero_add, List.nil_append] at hown ⊢
  go_ret
  exact ⟨A1, c1, rfl, hown, hB2.trans (((Below.refl _ X).alloc (by omega) _).trans hb1)⟩
end Go.Proofs.Ythmjkgpfnpdddaa
