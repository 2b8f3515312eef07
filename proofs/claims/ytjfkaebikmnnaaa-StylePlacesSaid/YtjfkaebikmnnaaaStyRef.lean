/- The walk over the reference's Encode; Encode where there is none; Bytes. -/
import Derived.Test.YtjfkaebikmnnaaaStyEnc
namespace Go.Proofs.Ytjfkaebikmnnaaa
open Go.RowKit

theorem wrap_u8 (x : Int) : IntKind.u8.wrap x = x % 256 := rfl
theorem enc_no (s : Sty) (hg : s.good = false) (w : World) : Calls Try.prog 11 #[s.val] w (Ret w (.tuple #[.slice none 0 0, .int .i64 11])) := by
  obtain ⟨a, b, c, d, f⟩ := s
  simp only [Sty.val]
  have HG := Lib.hid hg
  clear hg
  go_enter Try.func11, Try.ntmps11
  go_wp2_with fail
  refine (good_eq HG _).mono ?_
  rintro e w1 ⟨rfl, hb⟩
  have hz : w.heap.size < w1.heap.size := by have := hb.size; simp at this; omega
  have hB1 : Below w.heap.size w w1 := ((Below.refl _ _).alloc (Nat.le_refl _) _).trans (hb.mono (by simp))
  go_wp2
  go_ret2
  exact Ret.mk rfl hB1
theorem renc_no (s : Sty) (hg : s.good = false) (w : World) : Calls Try.prog 12 #[s.val] w (Ret w (.tuple #[.slice none 0 0, .int .i64 11])) := by
  obtain ⟨a, b, c, d, f⟩ := s
  simp only [Sty.val]
  have HG := Lib.hid hg
  clear hg
  go_enter Try.func12, Try.ntmps12
  go_wp2_with fail
  refine (rgood_eq HG _).mono ?_
  rintro e w1 ⟨rfl, hb⟩
  have hz : w.heap.size < w1.heap.size := by have := hb.size; simp at this; omega
  have hB1 : Below w.heap.size w w1 := ((Below.refl _ _).alloc (Nat.le_refl _) _).trans (hb.mono (by simp))
  go_wp2
  go_ret2
  exact Ret.mk rfl hB1

set_option maxHeartbeats 1000000 in
theorem renc_yes (s : Sty) (hg : s.good = true) (w : World) : Calls Try.prog 12 #[s.val] w (EncPost s w) := by
  obtain ⟨a, b, c, d, f⟩ := s
  simp only [Sty.val]
  have hbd : ∀ k : Nat, 0 ≤ (Sty.nums ⟨a, b, c, d, f⟩)[k]?.getD 0 ∧ (Sty.nums ⟨a, b, c, d, f⟩)[k]?.getD 0 ≤ 10000 := by
    simp [Sty.good, btw] at hg
    intro k
    match k with
    | 0 | 1 | 2 | 3 | 4 => simp [Sty.nums]; omega
    | k + 5 => simp [Sty.nums]
  have HG := Lib.hid hg
  clear hg
  go_enter Try.func12, Try.ntmps12
  go_wp2_with fail
  refine (rgood_eq HG _).mono ?_
  rintro e w1 ⟨rfl, hb⟩
  obtain ⟨hc, hf⟩ := bReads hb
  have hz : w.heap.size < w1.heap.size := by have := hb.size; simp at this; omega
  have hB1 : Below w.heap.size w w1 := ((Below.refl _ _).alloc (Nat.le_refl _) _).trans (hb.mono (by simp))
  go_wp2
  generalize hW : w1.alloc _ = W2
  have hcs : W2.heap[w1.heap.size]? = some (.cells #[.int .i64 a, .int .i64 b, .int .i64 c, .int .i64 d, .int .i64 f] 3) := by rw [← hW]; exact heap_alloc_new _ _
  have hs2 : w1.heap.size < W2.heap.size := by rw [← hW]; simp
  have hB2 : Below w.heap.size w W2 := by rw [← hW]; exact hB1.alloc (by omega) _
  clear hW hc hf hb
  have HC := Lib.hid hcs
  clear hcs
  go_loopw [4, 6] (fun v i wr => ∃ k : Nat, k ≤ 5 ∧ i = .int .i64 k ∧ wr.ownsRow W2.heap.size 5 1 v (2 * k) (bvs (((Sty.nums ⟨a, b, c, d, f⟩).take k).flatMap twoB)) ∧ Below W2.heap.size W2 wr)
    (fun _ i _ => 5 - (intOf i).toNat)
  case atStart => exact ⟨0, by omega, rfl, World.ownsRow_nil _ _ _ _, Below.refl _ _⟩
  case round =>
    obtain ⟨k, hk, rfl, hown, hbr⟩ := hrel
    by_cases hlt : k < 5
    · have hcell : ∀ w', Below W2.heap.size W2 w' → w'.cell? ⟨w1.heap.size, k, none⟩ = some (.int .i64 ((Sty.nums ⟨a, b, c, d, f⟩)[k]?.getD 0)) := by
        intro w' hw'
        rw [hw'.cell (p := ⟨w1.heap.size, k, none⟩) hs2, cell_of_row _ _ _ _ _ _ HC.out]
        match k, hlt with
        | 0, _ | 1, _ | 2, _ | 3, _ | 4, _ => rfl
      obtain ⟨h0, h1⟩ := hbd k
      have hzr := hbr.size
      generalize hx : (Sty.nums ⟨a, b, c, d, f⟩)[k]?.getD 0 = x at *
      have HK := Lib.hid hx
      clear hx
      go_wp2
      go_region_held3 (Below W2.heap.size W2) ((first | exact Below.trans (by assumption) hb2 | exact (by repeat (first | (with_reducible exact Below.refl _ _) | (with_reducible refine bDrewN ?_ _) | (with_reducible refine Below.drew ?_) | (with_reducible refine Below.alloc ?_ ?_ _) | (with_reducible refine Below.setCell ?_ ?_ _) | (with_reducible assumption) | go_size)) | fail))
        ((refine step_app _ rfl (.tmp 25) (.tmp 37) 24 rfl Try.underlying24 elemU8 rfl (hown.alloc _) rfl (Sl.new (n := 2) (heap_alloc_new _ _) rfl) (by simp [Value.oneCell']) (by simp only [maxLen]; omega) (by omega) (by have := hbr.size; simp; omega) ?_; intro A2 c2 w2 hown2 hg2 hb2 hat2))
      go_wp2
      go_roundw
      case rel =>
        refine ⟨k + 1, by omega, by go_num, ?_, by assumption⟩
        rw [enc_step (by simpa [Sty.nums] using hlt) HK.out h0 (by omega), show 2 * (k + 1) = 2 * k + 2 from by omega]
        rw [show IntKind.u8.wrap (x / 256) = x / 256 from by rw [wrap_u8]; omega, wrap_u8] at hown2
        exact hown2
      case measure => simp [intOf]; omega
    · obtain rfl : k = 5 := by omega
      obtain ⟨A, c', rfl, _⟩ := own_form hown
      go_wp2
      go_ret2
      refine ⟨A, c', rfl, ?_, hB2.trans (hbr.mono hB2.size)⟩
      exact own_base hown hB2.size

theorem run_str {P : Program} {w : World} {B n : Nat} {A : Option Addr} {l : List UInt8} (h : Sl w B 1 A n (bvs l)) (c : Nat) {src dst e : TypeId} (hs : P.underlying src = some (.slice e)) (he : P.underlying e = some (.int .u8)) (hd : P.underlying dst = some .string) :
    (convert src dst (.slice A n c)).run P w = .ok (.string ⟨l.toArray⟩) w := by
  have hl : l.length = n := by have := h.len; rw [bvs_len] at this; omega
  rcases A with _ | a
  · have : n = 0 := by
      rcases Nat.eq_zero_or_pos n with h0 | h0
      · exact h0
      · obtain ⟨b, o, e, _⟩ := h.at_ h0; cases e
    subst this
    obtain rfl : l = [] := List.eq_nil_of_length_eq_zero hl
    rw [run_convert_bytes_nil w src e hs he 0 c dst hd]
    rfl
  · subst hl
    refine run_convert_bytes_back w src dst e a c l hs he hd (fun j hj => ?_)
    obtain ⟨b, o, e, _, hr⟩ := h.at_ (by omega)
    injection e with e
    subst e
    rw [Addr.add_mid]
    exact hr j _ (by simp [bvs, bv, hj])
theorem bytes_any (A B : Option Addr) (n m c c' BA BB : Nat) (xs ys : List UInt8) (w : World) (h1 : Sl w BA 1 A n (bvs xs)) (h2 : Sl w BB 1 B m (bvs ys)) :
    Calls Try.prog 17 #[.slice A n c, .slice B m c'] w fun e w' => e = .returned (.bool (decide (xs = ys))) ∧ w = w' := by
  have k1 := run_str (P := Try.prog) (dst := 9) h1 c Try.underlying24 Try.underlying5 Try.underlying9
  have k2 := run_str (P := Try.prog) (dst := 9) h2 c' Try.underlying24 Try.underlying5 Try.underlying9
  go_enter Try.func17, Try.ntmps17
  go_wp2
  go_ret
  exact ⟨ret_bool (by rw [Bool.eq_iff_iff]; simp), rfl⟩
end Go.Proofs.Ytjfkaebikmnnaaa
