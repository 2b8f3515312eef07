/- The walk over style.Encode and its reference. -/
import Derived.Test.YtjfkaebikmnnaaaStyWalk
import Derived.Test.YtjfkaebikmnnaaaMem
namespace Go.Proofs.Ytjfkaebikmnnaaa
open Go.RowKit

/-! ### bytes -/
theorem elemU8 : Elem Try.prog 5 1 1 := elem_of (z := .int .u8 0) (by kernel_rfl) rfl (by omega)
def Sty.nums (s : Sty) : List Int := [s.w, s.h, s.t, s.c, s.i]
def twoB (n : Int) : List UInt8 := [u8 (n / 256), u8 n]
def Sty.enc (s : Sty) : List UInt8 := s.nums.flatMap twoB

theorem good_eq {a b c d f : Int} {t : Bool} (h : Hid (Sty.good ⟨a, b, c, d, f⟩ = t)) (w : World) :
    Calls Try.prog 15 #[.agg #[.int .i64 a, .int .i64 b, .int .i64 c, .int .i64 d, .int .i64 f]] w (Ret w (.bool t)) := by
  have := good_any a b c d f w
  rwa [h.out] at this
theorem rgood_eq {a b c d f : Int} {t : Bool} (h : Hid (Sty.good ⟨a, b, c, d, f⟩ = t)) (w : World) :
    Calls Try.prog 16 #[.agg #[.int .i64 a, .int .i64 b, .int .i64 c, .int .i64 d, .int .i64 f]] w (Ret w (.bool t)) := by
  have := rgood_any a b c d f w
  rwa [h.out] at this

theorem enc_step {l : List Int} {k : Nat} {x : Int} (hk : k < l.length) (hx : l[k]?.getD 0 = x) (h0 : 0 ≤ x) (h1 : x ≤ 65535) :
    bvs ((l.take (k + 1)).flatMap twoB) = bvs ((l.take k).flatMap twoB) ++ (#[Value.int .u8 (x / 256), Value.int .u8 (x % 256)] : Array Value).toList := by
  rw [List.getElem?_eq_getElem hk, Option.getD_some] at hx
  rw [List.take_succ_eq_append_getElem hk, List.flatMap_append, bvs_append, hx]
  simp only [List.flatMap_cons, List.flatMap_nil, twoB, List.append_nil, bvs, List.map_cons, List.map_nil, bv_u8]
  rw [show x / 256 % 256 = x / 256 from by omega]

def EncPost (s : Sty) (w : World) (e : Ending) (w' : World) : Prop :=
  ∃ A c, e = .returned (.tuple #[.slice A 10 c, .int .i64 0]) ∧ w'.ownsRow w.heap.size 5 1 (.slice A 10 c) 10 (bvs s.enc) ∧ Below w.heap.size w w'

theorem enc_yes (s : Sty) (hg : s.good = true) (w : World) : Calls Try.prog 11 #[s.val] w (EncPost s w) := by
  obtain ⟨a, b, c, d, f⟩ := s
  simp only [Sty.val]
  have hx : ∀ k, k < 5 → (Sty.nums ⟨a, b, c, d, f⟩)[k]? = some ((Sty.nums ⟨a, b, c, d, f⟩)[k]?.getD 0) := fun k hk => by
    rw [List.getElem?_eq_getElem (by simpa [Sty.nums] using hk)]; rfl
  have hbd : ∀ k : Nat, 0 ≤ (Sty.nums ⟨a, b, c, d, f⟩)[k]?.getD 0 ∧ (Sty.nums ⟨a, b, c, d, f⟩)[k]?.getD 0 ≤ 10000 := by
    simp [Sty.good, btw] at hg
    intro k
    match k with
    | 0 | 1 | 2 | 3 | 4 => simp [Sty.nums]; omega
    | k + 5 => simp [Sty.nums]
  have HG := Lib.hid hg
  clear hg
  go_enter Try.func11, Try.ntmps11
  go_wp2_with fail
  refine (good_eq HG _).mono ?_
  rintro e w1 ⟨rfl, hb⟩
  obtain ⟨hc, hf⟩ := bReads hb
  have hz : w.heap.size < w1.heap.size := by have := hb.size; simp at this; omega
  have hB1 : Below w.heap.size w w1 := ((Below.refl _ _).alloc (Nat.le_refl _) _).trans (hb.mono (by simp))
  go_wp2
  generalize hW : w1.alloc _ = W2
  have hcs : W2.heap[w1.heap.size]? = some (.cells #[.int .i64 a, .int .i64 b, .int .i64 c, .int .i64 d, .int .i64 f] 3) := by rw [← hW]; exact heap_alloc_new _ _
  have hs2 : w1.heap.size < W2.heap.size := by rw [← hW]; simp
  have hB2 : Below w.heap.size w W2 := by rw [← hW]; exact hB1.alloc (by omega) _
  clear hW hc hf hb
  have HX := Lib.hid hx
  have HC := Lib.hid hcs
  clear hx hcs
  go_loopw [4, 22] (fun v i wr => ∃ k : Nat, k ≤ 5 ∧ i = .int .i64 k ∧ wr.ownsRow W2.heap.size 5 1 v (2 * k) (bvs (((Sty.nums ⟨a, b, c, d, f⟩).take k).flatMap twoB)) ∧ Below W2.heap.size W2 wr)
    (fun _ i _ => 5 - (intOf i).toNat)
  case atStart => exact ⟨0, by omega, rfl, World.ownsRow_nil _ _ _ _, Below.refl _ _⟩
  case round =>
    obtain ⟨k, hk, rfl, hown, hbr⟩ := hrel
    by_cases hlt : k < 5
    · have hcell : wr.cell? ⟨w1.heap.size, k, none⟩ = some (.int .i64 ((Sty.nums ⟨a, b, c, d, f⟩)[k]?.getD 0)) := by
        rw [hbr.cell (p := ⟨w1.heap.size, k, none⟩) hs2, cell_of_row _ _ _ _ _ _ HC.out]
        match k, hlt with
        | 0, _ | 1, _ | 2, _ | 3, _ | 4, _ => rfl
      obtain ⟨h0, h1⟩ := hbd k
      generalize hx : (Sty.nums ⟨a, b, c, d, f⟩)[k]?.getD 0 = x at *
      have HK := Lib.hid hx
      clear hx
      go_wp2_with (at_builtin; refine wpList_app _ rfl (.tmp 26) (.tmp 32) 24 rfl Try.underlying24 elemU8 rfl (hown.alloc _) rfl (Sl.new (n := 2) (heap_alloc_new _ _) rfl) (by simp [Value.oneCell']) (by simp only [maxLen]; omega) (by omega) (by have := hbr.size; simp; omega) ?_; intro A2 c2 w2 hown2 hg2 hb2 hat2)
      go_roundw
      case rel =>
        refine ⟨k + 1, by omega, by go_num, ?_, hbr.trans ((((Below.refl _ wr).alloc (hbr.size) _)).trans hb2)⟩
        rw [enc_step (by simpa [Sty.nums] using hlt) HK.out h0 (by omega), show 2 * (k + 1) = 2 * k + 2 from by omega]
        exact hown2
      case measure => simp [intOf]; omega
    · obtain rfl : k = 5 := by omega
      obtain ⟨A, c', rfl, _⟩ := own_form hown
      go_wp2
      go_ret2
      refine ⟨A, c', rfl, ?_, hB2.trans (hbr.mono hB2.size)⟩
      exact own_base hown hB2.size
end Go.Proofs.Ytjfkaebikmnnaaa
