/- Digests in memory; tree.Encode. -/
import Derived.Test.YtcnbonmpocddmaaTrLev
import Derived.Test.YtcnbonmpocddmaaMany
namespace Go.Proofs.Ytcnbonmpocddmaa
set_option linter.unusedSimpArgs false
set_option linter.unusedVariables false
open Go.RowKit Go.Sort

def dgs (l : List (List UInt8)) : List Value := l.flatMap bvs
theorem dgs_part {l : List (List UInt8)} (h : ∀ x ∈ l, x.length = 32) {k : Nat} {x : List UInt8} (hx : l[k]? = some x) : ((dgs l).drop (k * 32)).take 32 = bvs x := by
  induction l generalizing k with
  | nil => simp at hx
  | cons y l ih =>
    have hy : (bvs y).length = 32 := by rw [bvs_len]; exact h y List.mem_cons_self
    match k with
    | 0 =>
      simp at hx; subst hx
      rw [Nat.zero_mul, List.drop_zero, dgs, List.flatMap_cons, ← hy, List.take_left]
    | k + 1 =>
      have := ih (fun z hz => h z (List.mem_cons_of_mem _ hz)) (k := k) (by simpa using hx)
      rw [dgs, List.flatMap_cons, Nat.add_mul, Nat.one_mul, Nat.add_comm (k * 32), ← List.drop_drop]
      have e : (bvs y ++ List.flatMap bvs l).drop 32 = dgs l := by rw [← hy, List.drop_left]; rfl
      rw [e]; exact this
structure DgAt (w : World) (B : Nat) (A : Option Addr) (n c : Nat) (l : List (List UInt8)) : Prop where
  wide : ∀ x ∈ l, x.length = 32
  len : l.length = n
  sl : Sl w B 32 A n (dgs l)
  cap : n ≤ c
theorem DgAt.below {w w' : World} {B : Nat} {A : Option Addr} {n c : Nat} {l : List (List UInt8)} (h : DgAt w B A n c l) (hb : Below B w w') : DgAt w' B A n c l := ⟨h.wide, h.len, h.sl.below hb, h.cap⟩
theorem DgAt.nxt {w w' : World} {A : Option Addr} {n c : Nat} {l : List (List UInt8)} (h : DgAt w w.heap.size A n c l) (hb : Below w.heap.size w w') : DgAt w' w'.heap.size A n c l := ⟨h.wide, h.len, h.sl.next hb, h.cap⟩
theorem DgAt.entry {w : World} {B : Nat} {A : Option Addr} {n c : Nat} {l : List (List UInt8)} (h : DgAt w B A n c l) {k : Nat} {x : List UInt8} (hx : l[k]? = some x) : ∃ b o, A = some ⟨b, o, none⟩ ∧ b < B ∧ w.rangeAt b (o + k * 32) (bvs x) := by
  obtain ⟨hk, -⟩ := List.getElem?_eq_some_iff.1 hx
  obtain ⟨b, o, e, hb, hr, hc⟩ := h.sl.elem (k := k) (by rw [← h.len]; exact hk)
  rw [dgs_part h.wide hx] at hc
  exact ⟨b, o, e, hb, hc⟩
theorem dgZ : ZeroIs Try.prog 40 (bvs (List.replicate 32 0)).toArray := by unfold ZeroIs; kernel_rfl
theorem dg_size : (Try.prog.info? 40).map (·.size) = some 32 := by kernel_rfl
theorem enc_len {lv : Nat} {l : List (List UInt8)} (h : ∀ x ∈ l, x.length = 32) : (nodeB lv l).length = 2 + 32 * l.length := by
  have : l.flatten.length = 32 * l.length := by
    induction l with
    | nil => rfl
    | cons x l ih => rw [List.flatten_cons, List.length_append, ih (fun y hy => h y (List.mem_cons_of_mem _ hy)), h x List.mem_cons_self, List.length_cons]; omega
  unfold nodeB
  rw [List.length_cons, List.length_cons, this]; omega
def EncT (w : World) (r : Option (List UInt8)) (e : Ending) (w' : World) : Prop :=
  match r with
  | none => e = .returned (.tuple #[.slice none 0 0, .int .i64 11]) ∧ Below w.heap.size w w'
  | some b => ∃ A c, e = .returned (.tuple #[.slice A b.length c, .int .i64 0]) ∧ w'.ownsRow w.heap.size 5 1 (.slice A b.length c) b.length (bvs b) ∧ Below w.heap.size w w'
theorem enc_no {lv : Int} {l : List (List UInt8)} (h : ¬ (0 ≤ lv ∧ lv ≤ 9 ∧ l.length ≤ 3)) : encT lv l = none := by unfold encT; rw [if_neg h]
theorem enc_yes {lv : Int} {l : List (List UInt8)} (h : 0 ≤ lv ∧ lv ≤ 9 ∧ l.length ≤ 3) : encT lv l = some (nodeB lv.toNat l) := by unfold encT; rw [if_pos h]
/-- a node's bytes with the first k children -/
def nodeK (lv n : Nat) (l : List (List UInt8)) (k : Nat) : List UInt8 := UInt8.ofNat lv :: UInt8.ofNat n :: (l.take k).flatten
theorem nodeK_len {lv n : Nat} {l : List (List UInt8)} (h : ∀ x ∈ l, x.length = 32) {k : Nat} (hk : k ≤ l.length) : (nodeK lv n l k).length = 2 + 32 * k := by
  have : ∀ (m : List (List UInt8)), (∀ x ∈ m, x.length = 32) → m.flatten.length = 32 * m.length := fun m hm => by
    induction m with
    | nil => rfl
    | cons x m ih => rw [List.flatten_cons, List.length_append, ih (fun y hy => hm y (List.mem_cons_of_mem _ hy)), hm x List.mem_cons_self, List.length_cons]; omega
  unfold nodeK
  rw [List.length_cons, List.length_cons, this _ (fun x hx => h x (List.mem_of_mem_take hx)), List.length_take]; omega
theorem nodeK_step {lv n : Nat} {l : List (List UInt8)} {k : Nat} {x : List UInt8} (hx : l[k]? = some x) : nodeK lv n l (k + 1) = nodeK lv n l k ++ x := by
  obtain ⟨hk, rfl⟩ := List.getElem?_eq_some_iff.1 hx
  unfold nodeK
  rw [List.take_succ_eq_append_getElem hk, List.flatten_append]; simp
theorem nodeK_all {lv : Nat} {l : List (List UInt8)} : nodeK lv l.length l l.length = nodeB lv l := by unfold nodeK nodeB; rw [List.take_length]
theorem elemB : Elem Try.prog 5 1 1 := elem_of (z := .int .u8 0) (by kernel_rfl) (by simp [Value.cells]) (by omega)
theorem own_two (w : World) (base : Nat) (e : TypeId) (a b : Value) (hb : base ≤ w.heap.size) : (w.alloc (.cells #[a, b] e)).ownsRow base e 1 (.slice (some ⟨w.heap.size, 0, none⟩) 2 2) 2 [a, b] :=
  ⟨by simp, .inr ⟨w.heap.size, 2, #[a, b], rfl, hb, heap_alloc_new _ _, Nat.le_refl _, by simp [maxLen], by simp, by simp⟩⟩
theorem nodeK_zero {v n : Nat} {l : List (List UInt8)} (hv : v < 256) (hn : n < 256) : bvs (nodeK v n l 0) = [.int .u8 (v : Int), .int .u8 (n : Int)] := by
  unfold nodeK
  simp [bvs, bv, UInt8.toNat_ofNat']
  omega
attribute [-go_sem] Builtin.append_
set_option maxHeartbeats 4000000 in
set_option maxRecDepth 100000 in
theorem tenc_any {A : Option Addr} {n c : Nat} {lv : Int} {l : List (List UInt8)} (w : World) (hl : DgAt w w.heap.size A n c l) (hn : n ≤ 1000000) :
    Calls Try.prog 8 #[.int .i64 lv, .slice A n c] w (EncT w (encT lv l)) := by
  have hln := hl.len
  by_cases hok : 0 ≤ lv ∧ lv ≤ 9 ∧ n ≤ 3
  · rw [enc_yes (by rw [hln]; exact hok)]
    obtain ⟨v, rfl⟩ : ∃ v : Nat, lv = v := ⟨lv.toNat, by omega⟩
    have n1 : ¬ (v : Int) < 0 := by omega
    have n2 : ¬ (9 : Int) < (v : Int) := by omega
    have n3 : ¬ (3 : Int) < (n : Int) := by omega
    have HL := Lib.hid (And.intro hl (And.intro hln hok))
    clear hl hln hok
    go_enter Try.func8, Try.ntmps8
    go_upto_region 3 with (fail)
    go_wp2_with fail
    obtain ⟨V, hV⟩ : ∃ q, w.alloc (.cells #[.int .u8 (v : Int), .int .u8 (n : Int)] 5) = q := ⟨_, rfl⟩
    have hown0 := own_two w w.heap.size 5 (.int .u8 (v : Int)) (.int .u8 (n : Int)) (Nat.le_refl _)
    have hB0 : Below w.heap.size w V := by rw [← hV]; exact (Below.refl _ _).alloc (Nat.le_refl _) _
    rw [hV] at hown0 ⊢
    rw [← nodeK_zero (v := v) (n := n) (l := l) (by omega) (by omega)] at hown0
    have H0 := Lib.hid (And.intro hown0 hB0)
    clear hV hown0 hB0
    have hdz := dgZ
    obtain ⟨z, hz⟩ : ∃ q, (bvs (List.replicate 32 0)).toArray = q := ⟨_, rfl⟩
    have hzl : z.size = 32 := by rw [← hz]; simp [bvs_len]
    rw [hz] at hdz
    clear hz
    go_loopw [6, 28] (fun s6 s28 wr => ∃ (k : Nat) (A6 : Option Addr) (c6 : Nat), k ≤ n ∧ s6 = .slice A6 (2 + 32 * k) c6 ∧ s28 = .int .i64 k ∧ Hid (wr.ownsRow w.heap.size 5 1 (.slice A6 (2 + 32 * k) c6) (2 + 32 * k) (bvs (nodeK v n l k)) ∧ Below w.heap.size w wr)) (fun _ k _ => n - (intOf k).toNat)
    case atStart => exact ⟨0, _, 2, by omega, rfl, rfl, Lib.hid H0.out⟩
    case round =>
      obtain ⟨k, A6, c6, hk, rfl, rfl, HO⟩ := hrel
      by_cases hlt : k < n
      · have hlt' : (k : Int) < (n : Int) := by omega
        have hk0 : (0 : Int) ≤ (k : Int) := by omega
        have g1 : IntKind.i64.wrap ((k : Int) + 1) = ((k + 1 : Nat) : Int) := by rw [wrap_small _ (by omega) (by omega)]; omega
        obtain ⟨x, hx⟩ : ∃ x, l[k]? = some x := ⟨_, List.getElem?_eq_getElem (by rw [HL.out.2.1]; exact hlt)⟩
        have hxl := HL.out.1.wide x (List.mem_of_getElem? hx)
        obtain ⟨b, o, rfl, hbB, hxr⟩ := HL.out.1.entry hx
        have hxr1 := bRange HO.out.2 hbB hxr
        have hob : b < wr.heap.size := by have := HO.out.2.size; omega
        have ix : (Try.prog.info? 40).map (·.size) = some (bvs x).length := by rw [bvs_len, hxl]; exact dg_size
        have jx : (Try.prog.info? 40).map (·.size) = some (bvs x).toArray.size := by rw [List.size_toArray, bvs_len, hxl]; exact dg_size
        have hzs : z.size = (bvs x).toArray.size := by rw [hzl, List.size_toArray, bvs_len, hxl]
        have ox := all_oneCell_toArray (oneCell_bvs x)
        obtain ⟨Y, hY, y8, bY⟩ := newRow wr z (bvs x).toArray 40
        have HX := Lib.hid (And.intro hx (And.intro (own_below HO.out.1 bY) (And.intro (bNext HO.out.2 bY) y8)))
        clear hx hxr y8 bY HO
        go_upto_region 7 with (first
          | (refine wpList_load_mid rfl 40 (.tmp 30) rfl b (o + k * 32) rfl (bvs x) _ hxr1 Try.underlying40 rfl ix ?_)
          | (refine wpList_new rfl hdz rfl ?_)
          | (refine wpList_store_row rfl 40 (.tmp 8) (.tmp 31) rfl _ (bvs x).toArray rfl rfl _ z (heap_alloc_new _ _) jx hzs ox ?_)
          | fail)
        try rw [hY]
        clear hY hxr1 ix jx hzs ox
        obtain ⟨g8, hg8⟩ : ∃ q, wr.heap.size = q := ⟨_, rfl⟩
        rw [hg8] at HX
        rw [hg8]
        have hsx : Sl Y Y.heap.size 1 (some ⟨g8, 0, none⟩) 32 (bvs x) := Sl.new (sz := 1) (n := 32) HX.out.2.2.2 (by simp [bvs_len, hxl])
        have hk3 : k ≤ 3 := by omega
        clear hg8
        refine wp_region_lit ?_
        iterate 6 (first | go_guarded | go_step)
        (try simp only [Act.put, List.setIfInBounds_toArray, List.set_cons_zero, List.set_cons_succ])
        refine wpList_app _ rfl (.tmp 32) (.tmp 33) 23 rfl (base := w.heap.size) Try.underlying23 elemB rfl HX.out.2.1 rfl hsx (oneCell_bvs _) (by simp only [maxLen]; omega) (by omega) HX.out.2.2.1.size ?_
        intro A34 c34 w34 hown34 hg34 hb34 hat34
        have e3 : 2 + 32 * k + 32 = 2 + 32 * (k + 1) := by omega
        have hown35 : w34.ownsRow w.heap.size 5 1 (.slice A34 (2 + 32 * (k + 1)) c34) (2 + 32 * (k + 1)) (bvs (nodeK v n l (k + 1))) := by
          rw [nodeK_step HX.out.1, bvs_append, ← e3]; exact hown34
        rw [e3]
        have HR := Lib.hid (And.intro hown35 (HX.out.2.2.1.trans hb34))
        clear hown34 hown35 hg34 hb34 hat34 hsx HX
        (try simp only [Act.put, List.setIfInBounds_toArray, List.set_cons_zero, List.set_cons_succ])
        go_wp2_with fail
        go_roundw
        case rel => exact ⟨k + 1, A34, c34, by omega, rfl, by go_num, HR⟩
        case measure => simp [intOf]; omega
      · obtain rfl : k = n := by omega
        have hlt' : ¬ (k : Int) < (k : Int) := by omega
        go_wp2_with fail
        go_returns
        have e : nodeK v k l k = nodeB v l := by have := HL.out.2.1; subst this; exact nodeK_all
        have el : (nodeB v l).length = 2 + 32 * k := by have h1 := enc_len (lv := v) HL.out.1.wide; have h2 := HL.out.2.1; omega
        unfold EncT
        have ho := HO.out.1
        rw [e, ← el] at ho
        exact ⟨A6, c6, by rw [el]; rfl, ho, HO.out.2⟩
  · rw [enc_no (by rw [hln]; exact hok)]
    unfold EncT
    clear hl hln
    by_cases h0 : lv < 0
    · clear hok
      go_enter Try.func8, Try.ntmps8
      go_wp2_with fail
      go_returns
      exact ⟨rfl, (by repeat (first | (with_reducible exact Below.refl _ _) | (with_reducible refine bDrewN ?_ _) | (with_reducible refine Below.drew ?_) | (with_reducible refine Below.alloc ?_ ?_ _) | (with_reducible refine Below.setCell ?_ ?_ _) | (with_reducible assumption) | go_size))⟩
    · by_cases h9 : 9 < lv
      · clear hok
        go_enter Try.func8, Try.ntmps8
        go_wp2_with fail
        go_returns
        exact ⟨rfl, (by repeat (first | (with_reducible exact Below.refl _ _) | (with_reducible refine bDrewN ?_ _) | (with_reducible refine Below.drew ?_) | (with_reducible refine Below.alloc ?_ ?_ _) | (with_reducible refine Below.setCell ?_ ?_ _) | (with_reducible assumption) | go_size))⟩
      · have h3 : (3 : Int) < (n : Int) := by omega
        clear hok
        go_enter Try.func8, Try.ntmps8
        go_wp2_with fail
        go_returns
        exact ⟨rfl, (by repeat (first | (with_reducible exact Below.refl _ _) | (with_reducible refine bDrewN ?_ _) | (with_reducible refine Below.drew ?_) | (with_reducible refine Below.alloc ?_ ?_ _) | (with_reducible refine Below.setCell ?_ ?_ _) | (with_reducible assumption) | go_size))⟩
set_option maxHeartbeats 4000000 in
set_option maxRecDepth 100000 in
theorem rtenc_any {A : Option Addr} {n c : Nat} {lv : Int} {l : List (List UInt8)} (w : World) (hl : DgAt w w.heap.size A n c l) (hn : n ≤ 1000000) :
    Calls Try.prog 9 #[.int .i64 lv, .slice A n c] w (EncT w (encT lv l)) := by
  have hln := hl.len
  by_cases hok : 0 ≤ lv ∧ lv ≤ 9 ∧ n ≤ 3
  · rw [enc_yes (by rw [hln]; exact hok)]
    obtain ⟨v, rfl⟩ : ∃ v : Nat, lv = v := ⟨lv.toNat, by omega⟩
    have n1 : ¬ (v : Int) < 0 := by omega
    have n2 : ¬ (9 : Int) < (v : Int) := by omega
    have n3 : ¬ (3 : Int) < (n : Int) := by omega
    have HL := Lib.hid (And.intro hl (And.intro hln hok))
    clear hl hln hok
    go_enter Try.func9, Try.ntmps9
    go_upto_region 3 with (fail)
    go_wp2_with fail
    obtain ⟨V, hV⟩ : ∃ q, w.alloc (.cells #[.int .u8 (v : Int), .int .u8 (n : Int)] 5) = q := ⟨_, rfl⟩
    have hown0 := own_two w w.heap.size 5 (.int .u8 (v : Int)) (.int .u8 (n : Int)) (Nat.le_refl _)
    have hB0 : Below w.heap.size w V := by rw [← hV]; exact (Below.refl _ _).alloc (Nat.le_refl _) _
    rw [hV] at hown0 ⊢
    rw [← nodeK_zero (v := v) (n := n) (l := l) (by omega) (by omega)] at hown0
    have H0 := Lib.hid (And.intro hown0 hB0)
    clear hV hown0 hB0
    go_loopw [6, 7] (fun s6 s28 wr => ∃ (k : Nat) (A6 : Option Addr) (c6 : Nat), k ≤ n ∧ s6 = .slice A6 (2 + 32 * k) c6 ∧ s28 = .int .i64 k ∧ Hid (wr.ownsRow w.heap.size 5 1 (.slice A6 (2 + 32 * k) c6) (2 + 32 * k) (bvs (nodeK v n l k)) ∧ Below w.heap.size w wr)) (fun _ k _ => n - (intOf k).toNat)
    case atStart => exact ⟨0, _, 2, by omega, rfl, rfl, Lib.hid H0.out⟩
    case round =>
      obtain ⟨k, A6, c6, hk, rfl, rfl, HO⟩ := hrel
      by_cases hlt : k < n
      · have hlt' : (k : Int) < (n : Int) := by omega
        have hk0 : (0 : Int) ≤ (k : Int) := by omega
        have g1 : IntKind.i64.wrap ((k : Int) + 1) = ((k + 1 : Nat) : Int) := by rw [wrap_small _ (by omega) (by omega)]; omega
        obtain ⟨x, hx⟩ : ∃ x, l[k]? = some x := ⟨_, List.getElem?_eq_getElem (by rw [HL.out.2.1]; exact hlt)⟩
        have hxl := HL.out.1.wide x (List.mem_of_getElem? hx)
        obtain ⟨b, o, rfl, hbB, hxr⟩ := HL.out.1.entry hx
        have hxr1 := bRange HO.out.2 hbB hxr
        have hob : b < wr.heap.size := by have := HO.out.2.size; omega
        have hsx : Sl wr wr.heap.size 1 (some ⟨b, o + k * 32, none⟩) 32 (bvs x) := ⟨by rw [bvs_len, hxl], fun _ => ⟨b, o + k * 32, rfl, hob, hxr1⟩⟩
        have HX := Lib.hid (And.intro hx (And.intro HO.out.1 (And.intro HO.out.2 trivial)))
        have hk3 : k ≤ 3 := by omega
        clear hx hxr HO hxr1
        go_upto_region 7 with (fail)
        refine wp_region_lit ?_
        iterate 15 (first | go_guarded | go_step)
        (try simp only [Act.put, List.setIfInBounds_toArray, List.set_cons_zero, List.set_cons_succ])
        refine wpList_app _ rfl (.tmp 31) (.tmp 35) 23 rfl (base := w.heap.size) Try.underlying23 elemB rfl HX.out.2.1 rfl hsx (oneCell_bvs _) (by simp only [maxLen]; omega) (by omega) HX.out.2.2.1.size ?_
        intro A34 c34 w34 hown34 hg34 hb34 hat34
        have e3 : 2 + 32 * k + 32 = 2 + 32 * (k + 1) := by omega
        have hown35 : w34.ownsRow w.heap.size 5 1 (.slice A34 (2 + 32 * (k + 1)) c34) (2 + 32 * (k + 1)) (bvs (nodeK v n l (k + 1))) := by
          rw [nodeK_step HX.out.1, bvs_append, ← e3]; exact hown34
        rw [e3]
        have HR := Lib.hid (And.intro hown35 (HX.out.2.2.1.trans hb34))
        clear hown34 hown35 hg34 hb34 hat34 hsx HX
        (try simp only [Act.put, List.setIfInBounds_toArray, List.set_cons_zero, List.set_cons_succ])
        go_wp2_with fail
        go_roundw
        case rel => exact ⟨k + 1, A34, c34, by omega, rfl, by go_num, HR⟩
        case measure => simp [intOf]; omega
      · obtain rfl : k = n := by omega
        have hlt' : ¬ (k : Int) < (k : Int) := by omega
        go_wp2_with fail
        go_returns
        have e : nodeK v k l k = nodeB v l := by have := HL.out.2.1; subst this; exact nodeK_all
        have el : (nodeB v l).length = 2 + 32 * k := by have h1 := enc_len (lv := v) HL.out.1.wide; have h2 := HL.out.2.1; omega
        unfold EncT
        have ho := HO.out.1
        rw [e, ← el] at ho
        exact ⟨A6, c6, by rw [el]; rfl, ho, HO.out.2⟩
  · rw [enc_no (by rw [hln]; exact hok)]
    unfold EncT
    clear hl hln
    by_cases h0 : lv < 0
    · clear hok
      go_enter Try.func9, Try.ntmps9
      go_wp2_with fail
      go_returns
      exact ⟨rfl, (by repeat (first | (with_reducible exact Below.refl _ _) | (with_reducible refine bDrewN ?_ _) | (with_reducible refine Below.drew ?_) | (with_reducible refine Below.alloc ?_ ?_ _) | (with_reducible refine Below.setCell ?_ ?_ _) | (with_reducible assumption) | go_size))⟩
    · by_cases h9 : 9 < lv
      · clear hok
        go_enter Try.func9, Try.ntmps9
        go_wp2_with fail
        go_returns
        exact ⟨rfl, (by repeat (first | (with_reducible exact Below.refl _ _) | (with_reducible refine bDrewN ?_ _) | (with_reducible refine Below.drew ?_) | (with_reducible refine Below.alloc ?_ ?_ _) | (with_reducible refine Below.setCell ?_ ?_ _) | (with_reducible assumption) | go_size))⟩
      · have h3 : (3 : Int) < (n : Int) := by omega
        clear hok
        go_enter Try.func9, Try.ntmps9
        go_wp2_with fail
        go_returns
        exact ⟨rfl, (by repeat (first | (with_reducible exact Below.refl _ _) | (with_reducible refine bDrewN ?_ _) | (with_reducible refine Below.drew ?_) | (with_reducible refine Below.alloc ?_ ?_ _) | (with_reducible refine Below.setCell ?_ ?_ _) | (with_reducible assumption) | go_size))⟩
end Go.Proofs.Ytcnbonmpocddmaa
