/- codexlaw21.wakes. -/
import Derived.Test.YtiffcdeagckgmaaDoorShBackP
import Derived.Test.YtiffcdeagckgmaaDoorShSheets
namespace Go.Proofs.YtiffcdeagckgmaaDoor
set_option linter.unusedSimpArgs false
set_option linter.unusedVariables false
open Go.RowKit Go.ChangeShapes Go.WideShapes Go.Sort Go.Deep
def wkL (A : Option Addr) : List (LN × List PC) := [(⟨1, true, false, true, .slice A 1 1⟩, [⟨258, ⟨#[97, 98]⟩⟩])]
theorem wk_enc (A : Option Addr) : encB 2 (wkL A) = [2, 1, 21, 1, 1, 2, 2, 97, 98] := by rfl
theorem wk_good (A : Option Addr) : GoodP 2 (wkL A) := by
  refine ⟨⟨by simp [wkL], fun r hr => ?_, fun p hp => ?_⟩, by rw [wk_enc]; simp⟩
  · simp only [wkL, List.mem_singleton] at hr
    subst hr
    simp [lineOk]
  · simp only [flatP, wkL, List.flatMap_cons, List.flatMap_nil, List.append_nil, List.mem_singleton] at hp
    subst hp
    exact ⟨by simp, by simp, by decide, by decide, by decide⟩
theorem no_good : ¬ GoodP 0 [] := fun h => by have := h.1.1.1; omega
theorem rn_nil (w : World) (B : Nat) : RnAt w B none 0 0 [] := ⟨⟨rfl, Sl.nil, Nat.le_refl _, fun x hx => by cases hx⟩, fun r hr => by cases hr⟩
set_option maxRecDepth 100000 in
set_option maxHeartbeats 16000000 in
theorem wakes_any (w : World) (hT : Tabs w) : Calls Tryd.prog 8 #[] w (Ret w (.bool true)) := by
  have HT := Lib.hid hT
  clear hT
  go_enter Tryd.func8, Tryd.ntmps8
  go_wp2_with fail
  obtain ⟨W1, hW1⟩ : ∃ q, ((w.alloc (.cells #[.int .i64 258, .string ⟨#[97, 98]⟩] 47)).alloc (.cells #[.int .i64 1, .bool true, .bool false, .bool true, .slice (some ⟨w.heap.size, 0, none⟩) 1 1] 45)).alloc (.cells #[.int .i64 2, .slice (some ⟨w.heap.size + 1, 0, none⟩) 1 1] 24) = q := ⟨_, rfl⟩
  have b1 : Below w.heap.size w W1 := by rw [← hW1]; exact (((Below.refl _ _).alloc (Nat.le_refl _) _).alloc (by simp) _).alloc (by simp; omega) _
  have r1 : W1.heap[w.heap.size]? = some (.cells #[.int .i64 258, .string ⟨#[97, 98]⟩] 47) := by
    rw [← hW1]; exact (Below.heap_alloc _ _ _ (by simp; omega)).trans ((Below.heap_alloc _ _ _ (by simp)).trans (heap_alloc_new _ _))
  have r2 : W1.heap[w.heap.size + 1]? = some (.cells #[.int .i64 1, .bool true, .bool false, .bool true, .slice (some ⟨w.heap.size, 0, none⟩) 1 1] 45) := by
    rw [← hW1]; exact (Below.heap_alloc _ _ _ (by simp)).trans (heap_alloc_new2 _ _ _)
  have r3 : W1.heap[w.heap.size + 1 + 1]? = some (.cells #[.int .i64 2, .slice (some ⟨w.heap.size + 1, 0, none⟩) 1 1] 24) := by
    rw [← hW1]
    have := heap_alloc_new ((w.alloc (.cells #[.int .i64 258, .string ⟨#[97, 98]⟩] 47)).alloc (.cells #[.int .i64 1, .bool true, .bool false, .bool true, .slice (some ⟨w.heap.size, 0, none⟩) 1 1] 45)) (.cells #[.int .i64 2, .slice (some ⟨w.heap.size + 1, 0, none⟩) 1 1] 24)
    simpa using this
  rw [hW1]
  clear hW1
  have hz1 : w.heap.size + 2 < W1.heap.size := (Array.getElem?_eq_some_iff.1 r3).1
  obtain ⟨g, hg⟩ : ∃ q, w.heap.size + 1 + 1 = q := ⟨_, rfl⟩
  obtain ⟨g2, hg2⟩ : ∃ q, w.heap.size + 1 = q := ⟨_, rfl⟩
  rw [hg] at r3 ⊢
  rw [hg2] at r2 r3 ⊢
  have hgz : g < W1.heap.size := by omega
  have hrn : RnAt W1 W1.heap.size (some ⟨g2, 0, none⟩) 1 1 (wkL (some ⟨w.heap.size, 0, none⟩)) := by
    refine ⟨⟨rfl, ⟨rfl, fun _ => ⟨g2, 0, rfl, by omega, range_blk r2⟩⟩, Nat.le_refl _, fun x hx => ?_⟩, fun r hr => ?_⟩
    · simp only [lnsOf, wkL, List.map_cons, List.map_nil, List.mem_singleton] at hx
      subst hx
      simp
    · simp only [wkL, List.mem_singleton] at hr
      subst hr
      refine ⟨_, _, _, rfl, fun x hx => ?_, rfl, ⟨rfl, fun _ => ⟨w.heap.size, 0, rfl, by omega, range_blk r1⟩⟩, Nat.le_refl _, by simp [maxLen]⟩
      simp only [List.mem_singleton] at hx
      subst hx
      simp
  clear r1 r2 hg hg2
  have hgd := wk_good (some ⟨w.heap.size, 0, none⟩)
  have hen := wk_enc (some ⟨w.heap.size, 0, none⟩)
  obtain ⟨L, hL⟩ : ∃ q, wkL (some ⟨w.heap.size, 0, none⟩) = q := ⟨_, rfl⟩
  rw [hL] at hrn hgd hen
  clear hL hz1
  obtain ⟨bs, hbs⟩ : ∃ q : List UInt8, q = [2, 1, 21, 1, 1, 2, 2, 97, 98] := ⟨_, rfl⟩
  rw [← hbs] at hen
  have hE := enc_yes (num := 2) (by omega) W1 hrn (by simp [maxLen]) (HT.out.below b1) hgd
  rw [hen] at hE
  refine Calls.mono hE ?_
  rintro e w2 ⟨A2, n2, c2, rfl, hn2, hnc2, hcm2, -, hsl2, b2⟩
  have hn9 : n2 ≤ 1000000 := by rw [hn2, hbs]; simp
  have hd := dec_any w2 hsl2 hnc2 hcm2 hn9 (HT.out.below (bNext b1 b2))
  have hok : OkD bs := by rw [← hen]; exact okD_enc hgd
  have hdn : decN bs = 2 := by rw [← hen]; exact decN_enc hgd
  have hds : RSame (decS bs).1 L := by rw [← hen]; exact decS_enc hgd
  have HD := Lib.hid hd
  have HA := Lib.hid (And.intro hrn (And.intro hgd (And.intro r3 (And.intro b1 (And.intro b2 (And.intro hok (And.intro hdn (And.intro hds (And.intro hsl2 (And.intro hn2 hbs))))))))))
  clear hE hd hrn hgd hen r3 b1 b2 hok hdn hds hsl2 hn2 hbs
  go_wp2_with fail
  refine Calls.mono HD.out ?_
  rintro e w3 ⟨num, A3, n3, c3, l3, er, rfl, b3, hr3, hc3, -, -, hdd⟩
  obtain ⟨hrn, hgd, r3, b1, b2, hok, hdn, hds, hsl2, hn2, hbs⟩ := HA.out
  rcases hdd with ⟨rfl, -, hnum, hsm⟩ | ⟨-, hno, -⟩
  case inr => exact absurd hok hno
  rw [hdn] at hnum
  subst hnum
  have hsm3 : RSame l3 L := ⟨hsm.len.trans hds.len, fun k r s h1 h2 => by
    obtain ⟨q, hq⟩ : ∃ q, (decS bs).1[k]? = some q := ⟨_, List.getElem?_eq_getElem (by rw [← hsm.len]; exact (List.getElem?_eq_some_iff.1 h1).1)⟩
    have a := hsm.at_ k r q h1 hq
    have b := hds.at_ k q s hq h2
    exact ⟨a.kind.trans b.kind, a.first.trans b.first, a.last.trans b.last, a.over.trans b.over, a.pcs.trans b.pcs⟩⟩
  have hb23 : Below W1.heap.size W1 w3 := bNext b2 b3
  have hn39 : n3 ≤ 1000000 := by have := hr3.len; have h2 := hsm3.len; have := hrn.len; omega
  have HA3 := Lib.hid (And.intro (hrn.nxt hb23) (And.intro hgd (And.intro (bBlk hb23 hgz r3) (And.intro (bNext b1 hb23) (And.intro (hsl2.next b3) (And.intro hn2 (And.intro hbs (And.intro hr3 (And.intro hsm3 hc3)))))))))
  have hg3 : g < w3.heap.size := by have := hb23.size; omega
  have hz3 := (bNext b1 hb23).size
  clear HA HD hrn hgd r3 b1 b2 hok hdn hds hsl2 hn2 hbs hsm hr3 hsm3 b3 hb23 hc3 hgz
  go_wp2_with fail
  obtain ⟨W4, hW4⟩ : ∃ q, (w3.alloc (.cells #[.int .i64 2, .slice A3 n3 c3] 24)).alloc (.cells #[.int .u8 1] 5) = q := ⟨_, rfl⟩
  have b4 : Below w3.heap.size w3 W4 := by rw [← hW4]; exact ((Below.refl _ _).alloc (Nat.le_refl _) _).alloc (by simp) _
  have r4 : W4.heap[w3.heap.size]? = some (.cells #[.int .i64 2, .slice A3 n3 c3] 24) := by
    rw [← hW4]; exact (Below.heap_alloc _ _ _ (by simp)).trans (heap_alloc_new _ _)
  have r5 : W4.heap[w3.heap.size + 1]? = some (.cells #[.int .u8 1] 5) := by rw [← hW4]; exact heap_alloc_new2 _ _ _
  rw [hW4]
  clear hW4
  obtain ⟨h, hh⟩ : ∃ q, w3.heap.size = q := ⟨_, rfl⟩
  rw [hh] at r4 r5 ⊢
  have hz4 : h + 1 < W4.heap.size := (Array.getElem?_eq_some_iff.1 r5).1
  have hb4 : bvs [1] = [.int .u8 1] := by rfl
  have hs5 : Sl W4 W4.heap.size 1 (some ⟨h + 1, 0, none⟩) 1 (bvs [1]) := by
    rw [hb4]; exact ⟨rfl, fun _ => ⟨h + 1, 0, rfl, hz4, range_blk r5⟩⟩
  have hd := dec_any W4 hs5 (Nat.le_refl _) (by simp [maxLen]) (by omega) (HT.out.below (HA3.out.2.2.2.1.trans (b4.mono hz3)))
  have HB4 := Lib.hid (And.intro b4 r4)
  have HD := Lib.hid hd
  clear b4 r4 r5 hb4 hs5 hd
  refine Calls.mono HD.out ?_
  rintro e w5 ⟨num, A5, n5, c5, l5, er, rfl, b5, -, -, -, -, hdd⟩
  rcases hdd with ⟨-, hyes, -⟩ | ⟨rfl, -, rfl, rfl, rfl, rfl, -⟩
  case inl => exact absurd (okD_len hyes) (by simp)
  have hb45 : Below w3.heap.size w3 w5 := bNext HB4.out.1 b5
  obtain ⟨a1, a2, a3, a4, a5, a6, a7, a8, a9, a10⟩ := HA3.out
  have hz5 := hb45.size
  have HA5 := Lib.hid (And.intro (a1.nxt hb45) (And.intro a2 (And.intro (bBlk hb45 hg3 a3) (And.intro (a4.trans (hb45.mono hz3)) (And.intro (a5.next hb45) (And.intro a6 (And.intro a7 (And.intro (a8.nxt hb45) (And.intro a9 (And.intro a10 (bBlk b5 (by omega) HB4.out.2)))))))))))
  have hg5 : g < w5.heap.size := by omega
  have hh5 : h < w5.heap.size := by have := b5.size; omega
  have hz5 : w.heap.size ≤ w5.heap.size := by omega
  clear a1 a2 a3 a4 a5 a6 a7 a8 a9 a10 HA3 HB4 HD b5 hb45 hg3 hz4
  go_wp2_with fail
  obtain ⟨W6, hW6⟩ : ∃ q, (w5.alloc (.cells #[.int .i64 0, .slice none 0 0] 24)).alloc (.cells #[.int .u8 2, .int .u8 1, .int .u8 21, .int .u8 1, .int .u8 1, .int .u8 2, .int .u8 2, .int .u8 97, .int .u8 98] 5) = q := ⟨_, rfl⟩
  have b6 : Below w5.heap.size w5 W6 := by rw [← hW6]; exact ((Below.refl _ _).alloc (Nat.le_refl _) _).alloc (by simp) _
  have r6 : W6.heap[w5.heap.size + 1]? = some (.cells #[.int .u8 2, .int .u8 1, .int .u8 21, .int .u8 1, .int .u8 1, .int .u8 2, .int .u8 2, .int .u8 97, .int .u8 98] 5) := by rw [← hW6]; exact heap_alloc_new2 _ _ _
  rw [hW6]
  clear hW6
  obtain ⟨a1, a2, a3, a4, a5, a6, a7, a8, a9, a10, a11⟩ := HA5.out
  have hbv : bvs bs = [.int .u8 2, .int .u8 1, .int .u8 21, .int .u8 1, .int .u8 1, .int .u8 2, .int .u8 2, .int .u8 97, .int .u8 98] := by rw [a7]; rfl
  have hs6 : Sl W6 W6.heap.size 1 (some ⟨w5.heap.size + 1, 0, none⟩) 9 (bvs bs) := by
    rw [hbv]; exact ⟨rfl, fun _ => ⟨_, 0, rfl, (Array.getElem?_eq_some_iff.1 r6).1, range_blk r6⟩⟩
  have hby := bytes_eqT (c := c2) (c' := 9) W6 (a5.next b6) hs6
  have q0 : W6.cell? ⟨g, 0, none⟩ = some (.int .i64 2) := blk_cell (bBlk b6 hg5 a3) rfl
  have q1 : W6.cell? ⟨g, 1, none⟩ = some (.slice (some ⟨g2, 0, none⟩) 1 1) := blk_cell (bBlk b6 hg5 a3) rfl
  have q2 : W6.cell? ⟨h, 0, none⟩ = some (.int .i64 2) := blk_cell (bBlk b6 hh5 a11) rfl
  have q3 : W6.cell? ⟨h, 1, none⟩ = some (.slice A3 n3 c3) := blk_cell (bBlk b6 hh5 a11) rfl
  have HB := Lib.hid hby
  have HA6 := Lib.hid (And.intro (a1.nxt b6) (And.intro a2 (And.intro (bBlk b6 hg5 a3) (And.intro (a4.trans (b6.mono hz5)) (And.intro (a8.nxt b6) (And.intro a9 a10))))))
  have hg6 : g < W6.heap.size := by have := b6.size; omega
  have hh6 : h < W6.heap.size := by have := b6.size; omega
  have hz6 : w.heap.size ≤ W6.heap.size := by have := b6.size; omega
  clear a1 a2 a3 a4 a5 a6 a7 a8 a9 a10 a11 b6 r6 hbv hs6 hby HA5 hg5 hh5 hz5
  refine Calls.mono HB.out ?_
  rintro e w7 ⟨rfl, rfl⟩
  clear HB
  go_wp2_with fail
  obtain ⟨W7, hW7⟩ : ∃ q, (W6.alloc (.cells #[.int .i64 2, .slice A3 n3 c3] 24)).alloc (.cells #[.int .i64 2, .slice (some ⟨g2, 0, none⟩) 1 1] 24) = q := ⟨_, rfl⟩
  have b7 : Below W6.heap.size W6 W7 := by rw [← hW7]; exact ((Below.refl _ _).alloc (Nat.le_refl _) _).alloc (by simp) _
  have r7 : W7.heap[W6.heap.size]? = some (.cells #[.int .i64 2, .slice A3 n3 c3] 24) := by
    rw [← hW7]; exact (Below.heap_alloc _ _ _ (by simp)).trans (heap_alloc_new _ _)
  have r8 : W7.heap[W6.heap.size + 1]? = some (.cells #[.int .i64 2, .slice (some ⟨g2, 0, none⟩) 1 1] 24) := by rw [← hW7]; exact heap_alloc_new2 _ _ _
  rw [hW7]
  clear hW7 q0 q1 q2 q3
  obtain ⟨a1, a2, a3, a4, a8, a9, a10⟩ := HA6.out
  have hsh := sheets_same (o1 := 0) (o2 := 0) (c := 1) (c' := 1) W7 (Nat.le_refl _) (Nat.le_refl _) (blk_cell r7 rfl) (blk_cell r7 rfl) (blk_cell r8 rfl) (blk_cell r8 rfl) (Array.getElem?_eq_some_iff.1 r7).1 (Array.getElem?_eq_some_iff.1 r8).1 (a8.nxt b7) (a1.nxt b7) a9 hn39
  have HB := Lib.hid hsh
  have HA7 := Lib.hid (And.intro (a1.nxt b7) (And.intro a2 (And.intro (bBlk b7 hg6 a3) (a4.trans (b7.mono hz6)))))
  have hg7 : g < W7.heap.size := by have := b7.size; omega
  have hz7 : w.heap.size ≤ W7.heap.size := by have := b7.size; omega
  clear a1 a2 a3 a4 a8 a9 a10 b7 r7 r8 hsh HA6 hg6 hh6 hz6
  refine Calls.mono HB.out ?_
  rintro e w8 ⟨rfl, b8⟩
  clear HB
  obtain ⟨a1, a2, a3, a4⟩ := HA7.out
  have q0 : w8.cell? ⟨g, 0, none⟩ = some (.int .i64 2) := blk_cell (bBlk b8 hg7 a3) rfl
  have q1 : w8.cell? ⟨g, 1, none⟩ = some (.slice (some ⟨g2, 0, none⟩) 1 1) := blk_cell (bBlk b8 hg7 a3) rfl
  have hw8 := a4.trans (b8.mono hz7)
  have hgd := good_yes (num := 2) (by omega) w8 (a1.nxt b8) (by simp [maxLen]) (HT.out.below hw8) a2
  have HB := Lib.hid hgd
  have HW8 := Lib.hid hw8
  clear a1 a2 a3 a4 hgd hw8 b8 HA7
  go_wp2_with fail
  refine Calls.mono HB.out ?_
  rintro e w9 ⟨rfl, b9⟩
  have hw9 := bNext HW8.out b9
  have hng := good_no (num := 0) (by omega) w9 (rn_nil _ _) (by simp [maxLen]) (HT.out.below hw9) no_good
  have HB := Lib.hid hng
  have HW9 := Lib.hid hw9
  clear hng hw9 b9
  go_wp2_with fail
  refine Calls.mono HB.out ?_
  rintro e wx ⟨rfl, bx⟩
  have HX := Lib.hid (bNext HW9.out bx)
  clear bx
  go_wp2_with fail
  go_ret
  exact Ret.mk rfl HX.out
end Go.Proofs.YtiffcdeagckgmaaDoor
