/- The statements of layer 12, StyleBack: the walk. -/
import Derived.Test.YtjfkaebikmnnaaaStyLaws
namespace Go.Proofs.Ytjfkaebikmnnaaa
set_option linter.unusedSimpArgs false
set_option linter.unusedVariables false
open Go.RowKit Go.ChangeShapes Go.WideShapes Go.Sort

theorem u8_two {x : Int} (h0 : 0 ≤ x) (h1 : x ≤ 65535) : ((u8 (x / 256)).toNat : Int) * 256 + ((u8 x).toNat : Int) = x := by
  rw [u8_toNat, u8_toNat]; omega
theorem enc_lit (a b c d f : Int) : Sty.enc ⟨a, b, c, d, f⟩ = [u8 (a / 256), u8 a, u8 (b / 256), u8 b, u8 (c / 256), u8 c, u8 (d / 256), u8 d, u8 (f / 256), u8 f] := rfl
theorem dec_enc {s : Sty} (hg : s.good = true) : Sty.dec s.enc = some s := by
  obtain ⟨a, b, c, d, f⟩ := s
  have hb : (0 ≤ a ∧ a ≤ 65535) ∧ (0 ≤ b ∧ b ≤ 65535) ∧ (0 ≤ c ∧ c ≤ 65535) ∧ (0 ≤ d ∧ d ≤ 65535) ∧ (0 ≤ f ∧ f ≤ 65535) := by
    simp [Sty.good, btw] at hg; omega
  have hu : unS (Sty.enc ⟨a, b, c, d, f⟩) = ⟨a, b, c, d, f⟩ := by
    rw [enc_lit]
    simp only [unS, nib, Sty.mk.injEq]
    exact ⟨u8_two hb.1.1 hb.1.2, u8_two hb.2.1.1 hb.2.1.2, u8_two hb.2.2.1.1 hb.2.2.1.2, u8_two hb.2.2.2.1.1 hb.2.2.2.1.2, u8_two hb.2.2.2.2.1 hb.2.2.2.2.2⟩
  unfold Sty.dec
  rw [hu, if_pos ⟨rfl, hg⟩]
theorem u8_hi (p q : UInt8) : u8 (((p.toNat : Int) * 256 + (q.toNat : Int)) / 256) = p := by
  have := q.toNat_lt
  have := p.toNat_lt
  apply UInt8.toNat_inj.1
  have := u8_toNat (((p.toNat : Int) * 256 + (q.toNat : Int)) / 256)
  omega
theorem u8_lo (p q : UInt8) : u8 ((p.toNat : Int) * 256 + (q.toNat : Int)) = q := by
  have := q.toNat_lt
  apply UInt8.toNat_inj.1
  have := u8_toNat ((p.toNat : Int) * 256 + (q.toNat : Int))
  omega
theorem ten {α : Type} {l : List α} (h : l.length = 10) : ∃ a b c d e f g i j k, l = [a, b, c, d, e, f, g, i, j, k] := by
  match l, h with
  | [a, b, c, d, e, f, g, i, j, k], _ => exact ⟨a, b, c, d, e, f, g, i, j, k, rfl⟩
theorem enc_dec {l : List UInt8} {s : Sty} (h : Sty.dec l = some s) : s.good = true ∧ s.enc = l := by
  unfold Sty.dec at h
  split at h
  · rename_i hc
    injection h with h
    subst h
    refine ⟨hc.2, ?_⟩
    obtain ⟨b0, b1, b2, b3, b4, b5, b6, b7, b8, b9, rfl⟩ := ten hc.1
    show Sty.enc ⟨_, _, _, _, _⟩ = _
    rw [enc_lit]
    simp only [nib, List.getElem?_cons_zero, List.getElem?_cons_succ, Option.getD_some, u8_hi, u8_lo, Nat.mul_zero, Nat.mul_one, Nat.reduceMul, Nat.reduceAdd, Nat.zero_add]
  · cases h

theorem own_empty2 {w : World} {e : TypeId} {g base : Nat} (hg : g = w.heap.size) (hb : base ≤ g) : (w.alloc (.cells #[] e)).ownsRow base e 1 (.slice (some ⟨g, 0, none⟩) 0 0) 0 [] :=
  ⟨rfl, .inr ⟨g, 0, #[], rfl, hb, by rw [hg]; exact heap_alloc_new _ _, Nat.le_refl _, by simp [maxLen], rfl, rfl⟩⟩
set_option maxHeartbeats 4000000 in
set_option maxRecDepth 100000 in
theorem styleBack_core (s : Sty) (A : Option Addr) (n c : Nat) (hc : n ≤ c) (hm : c ≤ maxLen) (l : List UInt8) (w : World) (h0 : Sl w w.heap.size 1 A n (bvs l)) :
    Calls Try.prog 4 #[s.val, .slice A n c] w (Ret w (.bool true)) := by
  by_cases hn : 300 < n
  · obtain ⟨a1, a2, a3, a4, a5⟩ := s
    simp only [Sty.val]
    have hn' : (300 : Int) < n := by omega
    go_enter Try.func4, Try.ntmps4
    go_wp2_with fail
    refine (wakes_any _).mono ?_
    rintro e w1 ⟨rfl, hb⟩
    go_wp2
    go_ret
    exact Ret.mk rfl (((Below.refl _ w).alloc (Nat.le_refl _) _).trans (hb.mono (by simp)))
  · have hn' : ¬ (300 : Int) < n := by omega
    cases hg : s.good
    · have he := enc_no s hg
      obtain ⟨a1, a2, a3, a4, a5⟩ := s
      have HE := Lib.hid he
      clear he hg
      simp only [Sty.val] at *
      go_enter Try.func4, Try.ntmps4
      go_wp2_with fail
      refine (HE.out _).mono ?_
      rintro e W ⟨rfl, hb⟩
      have h : Sl W W.heap.size 1 A n (bvs l) := ((h0.below ((Below.refl _ w).alloc (Nat.le_refl _) _)).mono (by simp)).next hb
      have hB : Below w.heap.size w W := ((Below.refl _ w).alloc (Nat.le_refl _) _).trans (hb.mono (by simp))
      have hzW := hB.size
      clear hb
      go_wp2_with fail
      have hd := sdec_any A n c hc l W h
      rcases hdl : Sty.dec l with _ | s1
      · rw [hdl] at hd
        refine hd.mono ?_
        rintro e w6 ⟨rfl, hb6⟩
        simp only [decR]
        have hz6 := hb6.size
        clear hd
        go_wp2_with fail
        refine (wakes_any _).mono ?_
        rintro e w7 ⟨rfl, hb7⟩
        go_wp2
        go_ret
        exact Ret.mk rfl (hB.trans ((hb6.mono (by omega)).trans (((Below.refl _ w6).alloc (by omega) _).trans (hb7.mono (by simp; omega)))))
      · obtain ⟨hg1, he1⟩ := enc_dec hdl
        have hy := enc_yes s1 hg1
        rw [hdl] at hd
        obtain ⟨y1, y2, y3, y4, y5⟩ := s1
        simp only [Sty.val, decR] at hd hy
        have HG1 := Lib.hid hg1
        have HY := Lib.hid hy
        clear hg1 hy hdl
        refine hd.mono ?_
        rintro e w6 ⟨rfl, hb6⟩
        have hz6 := hb6.size
        have h6 := h.next hb6
        clear hd
        go_wp2_with fail
        generalize hW7 : w6.alloc _ = W7
        have bT7 : W7.heap[w6.heap.size]? = some (.cells #[.int .i64 y1, .int .i64 y2, .int .i64 y3, .int .i64 y4, .int .i64 y5] 23) := by rw [← hW7]; exact heap_alloc_new _ _
        have hb7 : Below w6.heap.size w6 W7 := by rw [← hW7]; exact (by repeat (first | (with_reducible exact Below.refl _ _) | (with_reducible refine bDrewN ?_ _) | (with_reducible refine Below.drew ?_) | (with_reducible refine Below.alloc ?_ ?_ _) | (with_reducible refine Below.setCell ?_ ?_ _) | (with_reducible assumption) | go_size))
        have hz7 : w6.heap.size < W7.heap.size := by rw [← hW7]; simp
        clear hW7
        have h7 := h6.next hb7
        have k0 := blk_cell bT7 (k := 0) rfl
        have k1 := blk_cell bT7 (k := 1) rfl
        have k2 := blk_cell bT7 (k := 2) rfl
        have k3 := blk_cell bT7 (k := 3) rfl
        have k4 := blk_cell bT7 (k := 4) rfl
        clear h6
        go_wp2_with fail
        refine (HY.out _).mono ?_
        rintro e w8 ⟨A8, c8, rfl, hown8, hb8⟩
        have hs8 := Sl.of_own hown8
        rw [he1] at hs8
        have hz8 := hb8.size
        have h8 := h7.next hb8
        have bT8 := bBlk hb8 hz7 bT7
        have k0 := blk_cell bT8 (k := 0) rfl
        have k1 := blk_cell bT8 (k := 1) rfl
        have k2 := blk_cell bT8 (k := 2) rfl
        have k3 := blk_cell bT8 (k := 3) rfl
        have k4 := blk_cell bT8 (k := 4) rfl
        have hB8 : Below w.heap.size w w8 := hB.trans ((hb6.mono (by omega)).trans ((hb7.mono (by omega)).trans (hb8.mono (by omega))))
        clear h7 hb6 hb7 hb8 bT7 hown8
        go_wp2_with fail
        refine (bytes_same hs8 h8).mono ?_
        rintro e w9 ⟨rfl, hb9⟩
        have hz9 := hb9.size
        have bT9 := bBlk hb9 (by omega) bT8
        have k0 := blk_cell bT9 (k := 0) rfl
        have k1 := blk_cell bT9 (k := 1) rfl
        have k2 := blk_cell bT9 (k := 2) rfl
        have k3 := blk_cell bT9 (k := 3) rfl
        have k4 := blk_cell bT9 (k := 4) rfl
        go_wp2_with fail
        refine (good_eq HG1 _).mono ?_
        rintro e w10 ⟨rfl, hb10⟩
        have hz10 := hb10.size
        go_wp2_with fail
        refine (wakes_any _).mono ?_
        rintro e w11 ⟨rfl, hb11⟩
        go_wp2
        go_ret
        exact Ret.mk rfl (hB8.trans ((hb9.mono (by omega)).trans ((hb10.mono (by omega)).trans (hb11.mono (by omega)))))
    · have he := enc_yes s hg
      have hde := dec_enc hg
      have hde2 : Sty.dec (s.enc ++ [0]) = none := dec_len (by obtain ⟨a1, a2, a3, a4, a5⟩ := s; rw [enc_lit]; simp)
      have hle : s.enc.length = 10 := by obtain ⟨a1, a2, a3, a4, a5⟩ := s; rfl
      obtain ⟨E, hE⟩ : ∃ E, s.enc = E := ⟨_, rfl⟩
      unfold EncPost at he
      rw [hE] at hde hde2 hle he
      clear hE
      obtain ⟨a1, a2, a3, a4, a5⟩ := s
      have HE := Lib.hid he
      have H1 := Lib.hid hde
      have H2 := Lib.hid hde2
      clear he hg hde hde2
      simp only [Sty.val] at *
      go_enter Try.func4, Try.ntmps4
      go_wp2_with fail
      refine (HE.out _).mono ?_
      rintro e w1 ⟨A1, c1, rfl, hown1, hb1⟩
      have hs1 := Sl.of_own hown1
      obtain ⟨A1', c1', he1, hc1⟩ := own_form hown1
      injection he1 with e1 e2 e3
      subst e1 e3
      have hz1 : w.heap.size < w1.heap.size := by have := hb1.size; simp at this; omega
      have bS1 := bBlk hb1 (by simp) (heap_alloc_new w (.cells #[.int .i64 a1, .int .i64 a2, .int .i64 a3, .int .i64 a4, .int .i64 a5] 23))
      have h1 : Sl w1 w1.heap.size 1 A n (bvs l) := ((h0.below ((Below.refl _ w).alloc (Nat.le_refl _) _)).mono (by simp)).next hb1
      have hB1 : Below w.heap.size w w1 := ((Below.refl _ w).alloc (Nat.le_refl _) _).trans (hb1.mono (by simp))
      clear hb1 hown1 HE
      go_wp2_with fail
      have hd := sdec_eq hc1.1 hs1 H1.out
      simp only [decR, Sty.val] at hd
      refine hd.mono ?_
      rintro e w2 ⟨rfl, hb2⟩
      have hz2 := hb2.size
      clear hd
      have hs2 := hs1.next hb2
      have bS2 := bBlk hb2 hz1 bS1
      have h2 := h1.next hb2
      have hB2 : Below w.heap.size w w2 := hB1.trans (hb2.mono (by omega))
      clear hb2 hs1 bS1 h1 hB1
      have hbx : ∀ X Y : Obj, Below w2.heap.size w2 ((w2.alloc X).alloc Y) := fun X Y => ((Below.refl _ w2).alloc (Nat.le_refl _) X).alloc (by simp) Y
      go_wp2_with (first
        | (at_builtin; refine wpList_app _ rfl (.tmp 32) (.tmp 33) 24 rfl (base := w2.heap.size + 1) Try.underlying24 elemU8 rfl (own_empty2 (by simp) (by omega)) rfl (hs2.below (hbx _ _)) (oneCell_bvs _) (by simp only [maxLen] at *; omega) (by simp only [maxLen] at *; omega) (by simp <;> omega) ?_; intro A3 c3 w3 hown3 hg3 hb3 hat3; simp only [Nat.zero_add, List.nil_append] at hown3 ⊢)
        | (at_builtin; refine wpList_app _ rfl (.tmp 34) (.tmp 35) 24 rfl (base := w2.heap.size + 1) Try.underlying24 elemU8 rfl (hown3.alloc _) rfl (Sl.new (n := 1) (heap_alloc_new _ _) rfl) (by simp [Value.oneCell']) (by simp only [maxLen] at *; omega) (by simp only [maxLen] at *; omega) (by have := hb3.size; simp at this; simp <;> omega) ?_; intro A4 c4 w4 hown4 hg4 hb4 hat4))
      have hz3 : w2.heap.size + 2 ≤ w3.heap.size := by have := hb3.size; simp at this; omega
      have hb24 : RowKit.Below w2.heap.size w2 w4 := (hbx _ _).trans ((hb3.mono (by omega)).trans (((Below.refl _ w3).alloc (by omega) _).trans (hb4.mono (by omega))))
      have hz4 := hb24.size
      have hz4' : w3.heap.size + 1 ≤ w4.heap.size := by have := hb4.size; simp at this; omega
      have bT4 := bBlk hb4 (by omega) ((Below.heap_alloc w3 (.cells #[Value.int .u8 0] 5) _ (by omega)).trans (bBlk hb3 (by omega) ((Below.heap_alloc (w2.alloc (.cells #[.int .i64 a1, .int .i64 a2, .int .i64 a3, .int .i64 a4, .int .i64 a5] 23)) (.cells #[] 5) _ (by simp)).trans (heap_alloc_new w2 (.cells #[.int .i64 a1, .int .i64 a2, .int .i64 a3, .int .i64 a4, .int .i64 a5] 23)))))
      have bS4 := bBlk hb24 (by omega) bS2
      have h4 := (h2.below hb24).mono hz4
      have hs4 := Sl.of_own hown4
      obtain ⟨A4', c4', he4, hc4⟩ := own_form hown4
      injection he4 with e1 e2 e3
      subst e1 e3
      have hB4 : RowKit.Below w.heap.size w w4 := hB2.trans (hb24.mono (by omega))
      have hE0 : bvs E ++ [Value.int .u8 0] = bvs (E ++ [0]) := by rw [bvs_append]; rfl
      rw [hE0] at hs4
      clear hown3 hown4 hg3 hg4 hat3 hat4 hb3 hb4 hb24 hE0 hbx h2 bS2 hB2 hs2
      have hd := sdec_eq hc4.1 hs4 H2.out
      simp only [decR] at hd
      refine hd.mono ?_
      rintro e w5 ⟨rfl, hb5⟩
      have hz5 := hb5.size
      have bT5 := bBlk hb5 (by omega) bT4
      have bS5 := bBlk hb5 (by omega) bS4
      have h5 := h4.next hb5
      have hB5 : RowKit.Below w.heap.size w w5 := hB4.trans (hb5.mono (by omega))
      clear hd hb5 bT4 bS4 h4 hB4 hs4
      have t0 := blk_cell bT5 (k := 0) rfl
      have s0 := blk_cell bS5 (k := 0) rfl
      have t1 := blk_cell bT5 (k := 1) rfl
      have s1 := blk_cell bS5 (k := 1) rfl
      have t2 := blk_cell bT5 (k := 2) rfl
      have s2 := blk_cell bS5 (k := 2) rfl
      have t3 := blk_cell bT5 (k := 3) rfl
      have s3 := blk_cell bS5 (k := 3) rfl
      have t4 := blk_cell bT5 (k := 4) rfl
      have s4 := blk_cell bS5 (k := 4) rfl
      have l1 : w.heap.size < w5.heap.size := by omega
      have l2 : w2.heap.size < w5.heap.size := by omega
      have hbW : ∀ X : Obj, RowKit.Below w5.heap.size w5 (w5.alloc X) := fun X => (Below.refl _ _).alloc (Nat.le_refl _) X
      go_wp2_with fail
      generalize hW : w5.alloc _ = W
      have h : Sl W W.heap.size 1 A n (bvs l) := by rw [← hW]; exact h5.next (hbW _)
      have hB : RowKit.Below w.heap.size w W := by rw [← hW]; exact hB5.trans ((hbW _).mono (by omega))
      have hzW := hB.size
      clear hW hbW h5 hB5 t0 t1 t2 t3 t4 s0 s1 s2 s3 s4 bT5 bS5
      have hd := sdec_any A n c hc l W h
      rcases hdl : Sty.dec l with _ | s1
      · rw [hdl] at hd
        refine hd.mono ?_
        rintro e w6 ⟨rfl, hb6⟩
        simp only [decR]
        have hz6 := hb6.size
        clear hd
        go_wp2_with fail
        refine (wakes_any _).mono ?_
        rintro e w7 ⟨rfl, hb7⟩
        go_wp2
        go_ret
        exact Ret.mk rfl (hB.trans ((hb6.mono (by omega)).trans (((Below.refl _ w6).alloc (by omega) _).trans (hb7.mono (by simp; omega)))))
      · obtain ⟨hg1, he1⟩ := enc_dec hdl
        have hy := enc_yes s1 hg1
        rw [hdl] at hd
        obtain ⟨y1, y2, y3, y4, y5⟩ := s1
        simp only [Sty.val, decR] at hd hy
        have HG1 := Lib.hid hg1
        have HY := Lib.hid hy
        clear hg1 hy hdl
        refine hd.mono ?_
        rintro e w6 ⟨rfl, hb6⟩
        have hz6 := hb6.size
        have h6 := h.next hb6
        clear hd
        go_wp2_with fail
        generalize hW7 : w6.alloc _ = W7
        have bT7 : W7.heap[w6.heap.size]? = some (.cells #[.int .i64 y1, .int .i64 y2, .int .i64 y3, .int .i64 y4, .int .i64 y5] 23) := by rw [← hW7]; exact heap_alloc_new _ _
        have hb7 : Below w6.heap.size w6 W7 := by rw [← hW7]; exact (by repeat (first | (with_reducible exact Below.refl _ _) | (with_reducible refine bDrewN ?_ _) | (with_reducible refine Below.drew ?_) | (with_reducible refine Below.alloc ?_ ?_ _) | (with_reducible refine Below.setCell ?_ ?_ _) | (with_reducible assumption) | go_size))
        have hz7 : w6.heap.size < W7.heap.size := by rw [← hW7]; simp
        clear hW7
        have h7 := h6.next hb7
        have k0 := blk_cell bT7 (k := 0) rfl
        have k1 := blk_cell bT7 (k := 1) rfl
        have k2 := blk_cell bT7 (k := 2) rfl
        have k3 := blk_cell bT7 (k := 3) rfl
        have k4 := blk_cell bT7 (k := 4) rfl
        clear h6
        go_wp2_with fail
        refine (HY.out _).mono ?_
        rintro e w8 ⟨A8, c8, rfl, hown8, hb8⟩
        have hs8 := Sl.of_own hown8
        rw [he1] at hs8
        have hz8 := hb8.size
        have h8 := h7.next hb8
        have bT8 := bBlk hb8 hz7 bT7
        have k0 := blk_cell bT8 (k := 0) rfl
        have k1 := blk_cell bT8 (k := 1) rfl
        have k2 := blk_cell bT8 (k := 2) rfl
        have k3 := blk_cell bT8 (k := 3) rfl
        have k4 := blk_cell bT8 (k := 4) rfl
        have hB8 : Below w.heap.size w w8 := hB.trans ((hb6.mono (by omega)).trans ((hb7.mono (by omega)).trans (hb8.mono (by omega))))
        clear h7 hb6 hb7 hb8 bT7 hown8
        go_wp2_with fail
        refine (bytes_same hs8 h8).mono ?_
        rintro e w9 ⟨rfl, hb9⟩
        have hz9 := hb9.size
        have bT9 := bBlk hb9 (by omega) bT8
        have k0 := blk_cell bT9 (k := 0) rfl
        have k1 := blk_cell bT9 (k := 1) rfl
        have k2 := blk_cell bT9 (k := 2) rfl
        have k3 := blk_cell bT9 (k := 3) rfl
        have k4 := blk_cell bT9 (k := 4) rfl
        go_wp2_with fail
        refine (good_eq HG1 _).mono ?_
        rintro e w10 ⟨rfl, hb10⟩
        have hz10 := hb10.size
        go_wp2_with fail
        refine (wakes_any _).mono ?_
        rintro e w11 ⟨rfl, hb11⟩
        go_wp2
        go_ret
        exact Ret.mk rfl (hB8.trans ((hb9.mono (by omega)).trans ((hb10.mono (by omega)).trans (hb11.mono (by omega)))))

theorem styleBack_walk {H : Type} {enc : TypeId × Value → H} {W : World} {base : Nat} {v0 v1 : Value} {d0 d1 : DataW H} {p0 p1 : List MemPlace}
    (k0 : Value.okWide Try.prog W .any base 23 v0) (h0 : DataW.Trod enc Try.prog W 0 (fun _ => true) true 23 v0 d0 p0)
    (k1 : Value.okWide Try.prog W .any base 24 v1) (h1 : DataW.Trod enc Try.prog W 0 (fun _ => true) true 24 v1 d1 p1)
    : Calls Try.prog 4 #[v0, v1] W fun e W' => e = .returned (.bool true) ∧ Below W.heap.size W W' := by
  obtain ⟨s, rfl, -⟩ := open_style k0 h0
  obtain ⟨A, n, c, l, rfl, hl, hn, hc, -, hsl⟩ := open_bytes_sl Try.underlying24 Try.underlying5 (by kernel_rfl) k1 h1
  exact styleBack_core s A n c hn hc l W hsl
end Go.Proofs.Ytjfkaebikmnnaaa
