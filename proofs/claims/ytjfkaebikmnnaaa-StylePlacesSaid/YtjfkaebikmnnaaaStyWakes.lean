/- The walk over package codexlaw12's own test. -/
import Derived.Test.YtjfkaebikmnnaaaStyDec2
import Derived.Lib.QuietBelow
import Derived.Deep.OwnRows
namespace Go.Proofs.Ytjfkaebikmnnaaa
set_option linter.unusedSimpArgs false
set_option linter.unusedVariables false
open Go.RowKit

def s0 : Sty := ⟨300, 9, 200, 50, 12⟩
theorem s0_good : s0.good = true := by decide
theorem s0_enc : s0.enc = [1, 44, 0, 9, 0, 200, 0, 50, 0, 12] := by decide
theorem s0_dec : Sty.dec [1, 44, 0, 9, 0, 200, 0, 50, 0, 12] = some s0 := by decide
def z10 : List UInt8 := [0, 0, 0, 0, 0, 0, 0, 0, 0, 0]
theorem zero_dec : Sty.dec z10 = none := by decide
theorem z10_sl (w : World) (t : TypeId) : Sl (w.alloc (.cells (bvs z10).toArray t)) (w.alloc (.cells (bvs z10).toArray t)).heap.size 1 (some ⟨w.heap.size, 0, none⟩) 10 (bvs z10) :=
  Sl.new (n := 10) (cs := (bvs z10).toArray) (heap_alloc_new _ _) rfl

theorem made_rep (z : Value) (n : Nat) : madeCells #[z] n = (List.replicate n z).toArray := by
  apply Array.ext
  · simp [madeCells]
  · intro i h1 h2; simp [madeCells, Nat.mod_one]
theorem made_ten : madeCells #[Value.int .u8 0] 10 = (bvs z10).toArray := by rw [made_rep]; rfl
theorem make_ten (w : World) : (Instr.makeSlice 24 (.int .i64 10) (.int .i64 10)).run Try.prog w = .ok (.slice (some ⟨w.heap.size, 0, none⟩) 10 10) (w.alloc (.cells (bvs z10).toArray 5)) :=
  made_ten ▸ run_make_row' (P := Try.prog) 24 5 (.int .u8 0) 1 Try.underlying24 (by kernel_rfl) rfl .i64 .i64 10 (by omega) (by omega) w

set_option maxHeartbeats 2000000 in
set_option maxRecDepth 100000 in
theorem wakes_any (w : World) : Calls Try.prog 10 #[] w (Ret w (.bool true)) := by
  go_enter Try.func10, Try.ntmps10
  go_wp2_with fail
  refine (enc_yes s0 s0_good _).mono ?_
  rintro e w1 ⟨A, c, rfl, hown, hb⟩
  rw [s0_enc] at hown
  obtain ⟨hc1, hf1⟩ := bReads hb
  have hz1 : w.heap.size < w1.heap.size := by have := hb.size; simp at this; omega
  obtain ⟨A', c', he, hcap⟩ := own_form hown
  injection he with e1 e2 e3
  subst e1 e3
  have hsl := Sl.of_own hown
  obtain ⟨g, og, rfl, hg, hr⟩ := hsl.at_ (by omega)
  go_wp2_with fail
  refine (sdec_eq hcap.1 hsl s0_dec).mono ?_
  rintro e w2 ⟨rfl, hb2⟩
  simp only [decR, Sty.val, s0]
  have hmk := make_ten
  go_wp2_with fail
  obtain ⟨hc2, hf2⟩ := bReads hb2
  have hsl2 := z10_sl (w2.alloc (.cells #[.int .i64 300, .int .i64 9, .int .i64 200, .int .i64 50, .int .i64 12] 23)) 5
  have hsz2 : (w2.alloc (.cells #[.int .i64 300, .int .i64 9, .int .i64 200, .int .i64 50, .int .i64 12] 23)).heap.size = w2.heap.size + 1 := World.size_alloc _ _
  rw [hsz2] at hsl2
  refine (sdec_eq (Nat.le_refl 10) hsl2 zero_dec).mono ?_
  rintro e w3 ⟨rfl, hb3⟩
  simp only [decR]
  clear hmk
  have hz2 : w1.heap.size ≤ w2.heap.size := hb2.size
  have hz3 : w2.heap.size + 2 ≤ w3.heap.size := by have := hb3.size; simp at this; omega
  have cS : #[Value.int .i64 300, .int .i64 9, .int .i64 200, .int .i64 50, .int .i64 12] = s0.val.cells := rfl
  have bS1 := bBlk hb (by simp) (heap_alloc_new w (.cells #[.int .i64 300, .int .i64 9, .int .i64 200, .int .i64 50, .int .i64 12] 23))
  have bS2 := bBlk hb2 (by omega) bS1
  have bS3 := bBlk hb3 (by simp; omega) ((Below.heap_alloc _ _ _ (by simp; omega)).trans ((Below.heap_alloc _ _ _ (by omega)).trans bS2))
  have bT3 := bBlk hb3 (by simp; omega) ((Below.heap_alloc _ _ _ (by simp)).trans (heap_alloc_new w2 (.cells #[.int .i64 300, .int .i64 9, .int .i64 200, .int .i64 50, .int .i64 12] 23)))
  have hr3 : w3.rangeAt g og (bvs [1, 44, 0, 9, 0, 200, 0, 50, 0, 12]) := bRange hb3 (by simp; omega) (bRange (((Below.refl w2.heap.size w2).alloc (Nat.le_refl _) _).alloc (by simp) _) (by omega) (bRange hb2 (by omega) hr))
  have hB3 : Below w.heap.size w w3 := ((Below.refl _ _).alloc (Nat.le_refl _) _).trans ((hb.mono (by simp)).trans ((hb2.mono (by omega)).trans ((((Below.refl _ w2).alloc (by omega) _).alloc (by simp; omega) _).trans (hb3.mono (by simp; omega)))))
  have g0 : w3.cell? ⟨g, og, none⟩ = some (.int .u8 1) := hr3 0 _ rfl
  have g1 : w3.cell? ⟨g, og + 1, none⟩ = some (.int .u8 44) := hr3 1 _ rfl
  have g9 : w3.cell? ⟨g, og + 9, none⟩ = some (.int .u8 12) := hr3 9 _ rfl
  have s0 := blk_cell bS3 (k := 0) rfl
  have t0 := blk_cell bT3 (k := 0) rfl
  have s1 := blk_cell bS3 (k := 1) rfl
  have t1 := blk_cell bT3 (k := 1) rfl
  have s2 := blk_cell bS3 (k := 2) rfl
  have t2 := blk_cell bT3 (k := 2) rfl
  have s3 := blk_cell bS3 (k := 3) rfl
  have t3 := blk_cell bT3 (k := 3) rfl
  have s4 := blk_cell bS3 (k := 4) rfl
  have t4 := blk_cell bT3 (k := 4) rfl
  have hlg : g < w3.heap.size := by omega
  have hlt : w2.heap.size < w3.heap.size := by omega
  have hls : w.heap.size < w3.heap.size := by omega
  clear bS1 bS2 hb hb2 hr3 hr hown hsl hsl2 hc1 hf1 hc2 hf2 cS
  have H1 := Lib.hid s0_good
  have H2 : Hid (Sty.good ⟨0, 0, 0, 0, 0⟩ = false) := Lib.hid (by decide)
  obtain ⟨hc3, hf3⟩ := bReads hb3
  clear hc3 hf3 hb3
  go_wp2_with fail
  refine (good_eq H1 _).mono ?_
  rintro e w4 ⟨rfl, hb4⟩
  have hz4 := hb4.size
  simp only [World.size_alloc] at hz4
  go_wp2_with fail
  refine (good_eq H2 _).mono ?_
  rintro e w5 ⟨rfl, hb5⟩
  have hz5 := hb5.size
  go_wp2
  go_ret
  exact Ret.mk rfl ((hB3.alloc (by omega) _).trans ((hb4.mono (by simp; omega)).trans (hb5.mono (by omega))))
end Go.Proofs.Ytjfkaebikmnnaaa
