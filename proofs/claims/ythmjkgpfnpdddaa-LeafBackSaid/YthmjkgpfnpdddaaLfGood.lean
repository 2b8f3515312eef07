/- The walk over leaf.Good. (s7/lfgood.py writes it.) -/
import Derived.Test.YthmjkgpfnpdddaaLfPlain
import Derived.Test.YthmjkgpfnpdddaaObjBody
import Derived.BigQuiet
import Derived.Lib.QuietBelow
import Derived.Deep.CutRange
import Derived.Test.YthmjkgpfnpdddaaAuto
namespace Go.Proofs.Ythmjkgpfnpdddaa
set_option linter.unusedSimpArgs false
set_option linter.unusedVariables false
open Go.RowKit Go.ChangeShapes Go.WideShapes Go.Sort

def en0 : EN := ⟨List.replicate 32 0, 0, 0, 0⟩
theorem en0_ok : en0.Ok := ⟨by simp [en0], by simp [en0], by simp [en0], by simp [en0]⟩
theorem enZ : ZeroIs Try.prog 73 en0.cells.toArray := by unfold ZeroIs; kernel_rfl
theorem en_size : (Try.prog.info? 73).map (·.size) = some 35 := by kernel_rfl
theorem en_info {x : EN} (h : x.Ok) : (Try.prog.info? 73).map (·.size) = some x.cells.toArray.size := by rw [List.size_toArray, h.len]; exact en_size
theorem en_linfo {x : EN} (h : x.Ok) : (Try.prog.info? 73).map (·.size) = some x.cells.length := by rw [h.len]; exact en_size
theorem en_sizes {a b : EN} (ha : a.Ok) (hb : b.Ok) : a.cells.toArray.size = b.cells.toArray.size := by rw [List.size_toArray, List.size_toArray, ha.len, hb.len]
theorem one_en (x : EN) : ∀ u ∈ x.cells, u.oneCell' = true := fun u hu => by
  unfold EN.cells at hu
  rcases List.mem_append.1 hu with h | h
  · exact oneCell_bvs _ u h
  · simp at h; rcases h with rfl | rfl | rfl <;> rfl
/-- a slice reads as a list of entries -/
structure LfAt (w : World) (B : Nat) (A : Option Addr) (n c : Nat) (l : List EN) : Prop where
  ok : ∀ x ∈ l, x.Ok
  len : l.length = n
  sl : Sl w B 35 A n (ens l)
  cap : n ≤ c
theorem LfAt.below {w w' : World} {B : Nat} {A : Option Addr} {n c : Nat} {l : List EN} (h : LfAt w B A n c l) (hb : Below B w w') : LfAt w' B A n c l := ⟨h.ok, h.len, h.sl.below hb, h.cap⟩
theorem LfAt.nxt {w w' : World} {A : Option Addr} {n c : Nat} {l : List EN} (h : LfAt w w.heap.size A n c l) (hb : Below w.heap.size w w') : LfAt w' w'.heap.size A n c l := ⟨h.ok, h.len, h.sl.next hb, h.cap⟩
theorem ens_part {l : List EN} (h : ∀ x ∈ l, x.Ok) {k : Nat} {x : EN} (hx : l[k]? = some x) : ((ens l).drop (k * 35)).take 35 = x.cells := by
  induction l generalizing k with
  | nil => simp at hx
  | cons y l ih =>
    have hy := (h y (by simp)).len
    match k with
    | 0 =>
      simp at hx; subst hx
      simp [ens, List.flatMap_cons, ← hy]
    | k + 1 =>
      have := ih (fun x hx => h x (by simp [hx])) (k := k) (by simpa using hx)
      rw [ens, List.flatMap_cons, Nat.add_mul, Nat.one_mul, Nat.add_comm (k * 35), ← List.drop_drop]
      conv => lhs; rw [← hy, List.drop_left]
      rw [hy]; exact this
theorem LfAt.entry {w : World} {B : Nat} {A : Option Addr} {n c : Nat} {l : List EN} (h : LfAt w B A n c l) {k : Nat} {x : EN} (hx : l[k]? = some x) : ∃ b o, A = some ⟨b, o, none⟩ ∧ b < B ∧ w.rangeAt b (o + k * 35) x.cells := by
  obtain ⟨hk, -⟩ := List.getElem?_eq_some_iff.1 hx
  obtain ⟨b, o, e, hb, hr, hc⟩ := h.sl.elem (k := k) (by rw [← h.len]; exact hk)
  rw [ens_part h.ok hx] at hc
  exact ⟨b, o, e, hb, hc⟩
theorem en_range {w : World} {b o : Nat} {x : EN} (hx : x.Ok) (h : w.rangeAt b o x.cells) : w.rangeAt b o (bvs x.key) ∧ w.cell? ⟨b, o + 32, none⟩ = some (.int .i64 x.place) ∧ w.cell? ⟨b, o + 33, none⟩ = some (.int .i64 x.blocks) ∧ w.cell? ⟨b, o + 34, none⟩ = some (.int .i64 x.refs) := by
  have hl : (bvs x.key).length = 32 := by rw [bvs_len, hx.key]
  have h' : w.rangeAt b o (bvs x.key ++ [.int .i64 x.place, .int .i64 x.blocks, .int .i64 x.refs]) := h
  refine ⟨(range_append.1 h').1, ?_, ?_, ?_⟩
  · exact h' 32 _ (by rw [List.getElem?_append_right (by omega), hl]; rfl)
  · exact h' 33 _ (by rw [List.getElem?_append_right (by omega), hl]; rfl)
  · exact h' 34 _ (by rw [List.getElem?_append_right (by omega), hl]; rfl)
theorem range_reg {W : World} {b o : Nat} {cs : List Value} (h : W.rangeAt b o cs) : ∀ w', (∃ p : Regrown, w' = grow (redrawn W p.d) p.os) → w'.rangeAt b o cs := by
  rintro w' ⟨p, rfl⟩ j v hj
  exact cell_regrown (h j v hj) _ _
/-- may an entry be behind the one ahead? -/
def stepOk (l : List EN) (k : Nat) (x : EN) : Bool := x.one && (decide (k = 0) || lt8 ((l[k - 1]?.map EN.key).getD []) x.key)
theorem okTo_succ {l : List EN} {k : Nat} {x : EN} (hx : l[k]? = some x) : okTo l (k + 1) ↔ okTo l k ∧ stepOk l k x = true := by
  have hk := (List.getElem?_eq_some_iff.1 hx).1
  constructor
  · intro h
    refine ⟨fun j hj => h j (by omega), ?_⟩
    obtain ⟨y, e, h1, h2⟩ := h k (by omega)
    rw [hx] at e
    injection e with e
    subst e
    unfold stepOk
    rw [h1, Bool.true_and]
    by_cases h0 : k = 0
    · simp [h0]
    · obtain ⟨z, ez, hz⟩ := h2 (by omega)
      rw [ez]
      simp [hz]
  · rintro ⟨h, h1⟩ j hj
    by_cases hjk : j < k
    · exact h j hjk
    · obtain rfl : j = k := by omega
      unfold stepOk at h1
      rw [Bool.and_eq_true, Bool.or_eq_true, decide_eq_true_eq] at h1
      refine ⟨x, hx, h1.1, fun h0 => ?_⟩
      rcases h1.2 with h2 | h2
      · omega
      · have hj1 : j - 1 < l.length := by omega
        refine ⟨l[j - 1], List.getElem?_eq_getElem hj1, ?_⟩
        rw [List.getElem?_eq_getElem hj1] at h2
        exact h2
theorem good_no {A : Option Addr} {n c : Nat} (h : n < 1 ∨ (1 ≤ n ∧ 3 < n)) (w : World) : Calls Try.prog 32 #[.slice A n c] w (Ret w (.bool false)) := by
  rcases h with h | ⟨h, h2⟩
  all_goals
    go_enter Try.func32, Try.ntmps32
    go_wp2
    go_ret
    exact Ret.mk rfl (Below.refl _ _)
set_option maxHeartbeats 16000000 in
set_option maxRecDepth 100000 in
theorem good_yes {A : Option Addr} {n c : Nat} {l : List EN} (w : World) (h : LfAt w w.heap.size A n c l) (h1 : 1 ≤ n) (h3 : n ≤ 3) : Calls Try.prog 32 #[.slice A n c] w (Ret w (.bool (chain l))) := by
  have hln := h.len
  have HL := Lib.hid (And.intro hln h)
  clear hln h
  go_enter Try.func32, Try.ntmps32
  go_wp2_with fail
  go_loopw [15] (fun si wr => ∃ k : Nat, k ≤ n ∧ si = .int .i64 k ∧ Below w.heap.size w wr ∧ okTo l k) (fun i _ => n - (intOf i).toNat)
  case atStart => exact ⟨0, by omega, rfl, Below.refl _ _, fun j hj => absurd hj (by omega)⟩
  case round =>
    obtain ⟨k, hk, rfl, hbr, hto⟩ := hrel
    by_cases hlt : k < n
    · obtain ⟨x, hx⟩ : ∃ x, l[k]? = some x := ⟨_, List.getElem?_eq_getElem (by rw [HL.out.1]; exact hlt)⟩
      have hxo := HL.out.2.ok x (List.mem_of_getElem? hx)
      obtain ⟨b, o, rfl, hbB, hxr⟩ := HL.out.2.entry hx
      replace hxr := bRange hbr (by omega) hxr
      have hi1 : (k : Int) < (n : Int) := by omega
      have hxli := en_linfo hxo
      have hxi := en_info hxo
      have hxs := en_sizes en0_ok hxo
      have hone := one_en x
      have hez := enZ
      obtain ⟨z, hz⟩ : ∃ q, en0.cells.toArray = q := ⟨_, rfl⟩
      rw [hz] at hxs hez
      clear hz
      obtain ⟨Y, hY, y4, bY⟩ := newRow wr z x.cells.toArray 73
      have hzr := hbr.size
      have hbY := hbr.trans (bY.mono hzr)
      have HX := Lib.hid (And.intro hx (And.intro hxo (And.intro hto (And.intro hbY y4))))
      clear hx hxo hto hbY y4 bY hbr
      go_upto_region 6 with (first
        | (refine wpList_load_mid rfl 73 (.tmp 18) rfl b (o + k * 35) rfl x.cells _ hxr Try.underlying73 rfl hxli ?_)
        | (refine wpList_new rfl hez rfl ?_)
        | (refine wpList_store_row rfl 73 (.tmp 4) (.tmp 19) rfl _ x.cells.toArray rfl rfl _ z (heap_alloc_new _ _) hxi hxs (all_oneCell_toArray hone) ?_; (try rw [hY]))
        | fail)
      (try simp only [Act.put, List.setIfInBounds_toArray, List.set_cons_zero, List.set_cons_succ])
      clear hY hez hxs hxi hxli hone hxr
      obtain ⟨hx, hxo, hto, hbY, y4⟩ := HX.out
      have l4 := (Array.getElem?_eq_some_iff.1 y4).1
      obtain ⟨rk, c32, c33, c34⟩ := en_range hxo (range_blk y4)
      rw [Nat.zero_add] at c32 c33 c34
      have hst : Hid (okTo l (k + 1) ↔ okTo l k ∧ stepOk l k x = true) := Lib.hid (okTo_succ hx)
      have hone : Hid (x.one = true ↔ _) := Lib.hid (EN.one_iff x)
      have hkey := hxo.key
      have HT := Lib.hid (And.intro hto hbY)
      clear HX hx hto hbY y4
      go_cut [71] from 20 to 71 (fun s wx => s = .bool (!(stepOk l k x)) ∧ Below Y.heap.size Y wx)
      case first =>
        have iD : (Try.prog.info? 71).map (·.size) = some (bvs x.key).length := by rw [bvs_len, hkey]; exact d32_size
        have hways : (x.place < 2) ∨ (2 ≤ x.place ∧ 128 ≤ x.place) ∨ (2 ≤ x.place ∧ x.place < 128 ∧ x.blocks < 1) ∨ (2 ≤ x.place ∧ x.place < 128 ∧ 1 ≤ x.blocks ∧ 8 < x.blocks) ∨ (2 ≤ x.place ∧ x.place < 128 ∧ 1 ≤ x.blocks ∧ x.blocks ≤ 8 ∧ 128 - x.place < x.blocks) ∨ (2 ≤ x.place ∧ x.place < 128 ∧ 1 ≤ x.blocks ∧ x.blocks ≤ 8 ∧ x.blocks ≤ 128 - x.place ∧ x.refs < 0) ∨ (2 ≤ x.place ∧ x.place < 128 ∧ 1 ≤ x.blocks ∧ x.blocks ≤ 8 ∧ x.blocks ≤ 128 - x.place ∧ 0 ≤ x.refs ∧ 1000 < x.refs) ∨ (2 ≤ x.place ∧ x.place < 128 ∧ 1 ≤ x.blocks ∧ x.blocks ≤ 8 ∧ x.blocks ≤ 128 - x.place ∧ 0 ≤ x.refs ∧ x.refs ≤ 1000) := by omega
        by_cases h0 : k = 0
        · have hi0 : ¬ 0 < (k : Int) := by omega
          have hd0 : decide (0 < (k : Int)) = false := decide_eq_false hi0
          have hn0 : ¬ 0 < k := by omega
          have hn0' : decide (0 < k) = false := decide_eq_false hn0
          have hso : stepOk l k x = x.one := by unfold stepOk; rw [decide_eq_true h0]; simp
          have H0 := Lib.hid h0
          clear h0
          rcases hways with g0 | ⟨g0, g1⟩ | ⟨g0, g1, g2⟩ | ⟨g0, g1, g2, g3⟩ | ⟨g0, g1, g2, g3, g4⟩ | ⟨g0, g1, g2, g3, g4, g5⟩ | ⟨g0, g1, g2, g3, g4, g5, g6⟩ | ⟨g0, g1, g2, g3, g4, g5, g6⟩
          · have hres : stepOk l k x = false := by rw [hso]; cases ho : x.one; rfl; have := hone.out.1 ho; omega
            have f0 : x.place < 2 := by omega
            have d0 : decide (x.place < 2) = true := decide_eq_true f0
            clear hso
            let S : World → Prop := fun w' => Below Y.heap.size Y w'
            have hS0 : S Y.drew := (Below.refl _ _).drew
            have r32 := fun w' (h : S w') => ((show Below Y.heap.size Y w' from h).cell (p := ⟨wr.heap.size, 32, none⟩) l4).trans c32
            have r33 := fun w' (h : S w') => ((show Below Y.heap.size Y w' from h).cell (p := ⟨wr.heap.size, 33, none⟩) l4).trans c33
            have r34 := fun w' (h : S w') => ((show Below Y.heap.size Y w' from h).cell (p := ⟨wr.heap.size, 34, none⟩) l4).trans c34
            have qk := fun w' (h : S w') => bRange (show Below Y.heap.size Y w' from h) l4 rk
            clear c32 c33 c34 rk
            refine wp_region_held (S := S) (by kernel_rfl) ?_
            change wpAnyH _ _ _ _ S _ _ _ Y.drew
            change At 0 _
            iterate 3 (first | (apply tkA; (case hi => (simp only [List.getElem?_toArray, List.getElem?_cons_zero, List.getElem?_cons_succ]; rfl)); (case hw => rfl); (case hy => (intro w' hSw; (try simp only [S] at hSw); go_simp; (try with_reducible rfl))); (case hs => kernel_rfl); (case hf => kernel_rfl); (case hr => kernel_rfl); (case hQ => exact fun _ _ _ h => h); (case hS => assumption); (try simp only [Act.put, List.setIfInBounds_toArray, List.set_cons_zero, List.set_cons_succ, Nat.reduceAdd])) | (apply skA; (case hi => (simp only [List.getElem?_toArray, List.getElem?_cons_zero, List.getElem?_cons_succ]; rfl)); (case hw => rfl); (case hs => kernel_rfl); (case hf => kernel_rfl); (case hr => kernel_rfl); (case hQ => exact fun _ _ _ h => h); (case hS => assumption); (try simp only [Act.put, List.setIfInBounds_toArray, List.set_cons_zero, List.set_cons_succ, Nat.reduceAdd])))
            change wpAnyH _ _ _ _ _ _ _ _ _
            change At 3 _
            iterate 12 (first | (apply tkA; (case hi => (simp only [List.getElem?_toArray, List.getElem?_cons_zero, List.getElem?_cons_succ]; rfl)); (case hw => rfl); (case hy => (intro w' hSw; (try simp only [S] at hSw); go_simp; (try with_reducible rfl))); (case hs => kernel_rfl); (case hf => kernel_rfl); (case hr => kernel_rfl); (case hQ => exact fun _ _ _ h => h); (case hS => assumption); (try simp only [Act.put, List.setIfInBounds_toArray, List.set_cons_zero, List.set_cons_succ, Nat.reduceAdd])) | (apply skA; (case hi => (simp only [List.getElem?_toArray, List.getElem?_cons_zero, List.getElem?_cons_succ]; rfl)); (case hw => rfl); (case hs => kernel_rfl); (case hf => kernel_rfl); (case hr => kernel_rfl); (case hQ => exact fun _ _ _ h => h); (case hS => assumption); (try simp only [Act.put, List.setIfInBounds_toArray, List.set_cons_zero, List.set_cons_succ, Nat.reduceAdd])))
            change wpAnyH _ _ _ _ _ _ _ _ _
            change At 15 _
            iterate 37 (first | (apply tkA; (case hi => (simp only [List.getElem?_toArray, List.getElem?_cons_zero, List.getElem?_cons_succ]; rfl)); (case hw => rfl); (case hy => (intro w' hSw; have q1 := r32 w' hSw; have q2 := r33 w' hSw; have q3 := r34 w' hSw; (try simp only [S] at hSw); go_simp; (try with_reducible rfl))); (case hs => kernel_rfl); (case hf => kernel_rfl); (case hr => kernel_rfl); (case hQ => exact fun _ _ _ h => h); (case hS => assumption); (try simp only [Act.put, List.setIfInBounds_toArray, List.set_cons_zero, List.set_cons_succ, Nat.reduceAdd])) | (apply skA; (case hi => (simp only [List.getElem?_toArray, List.getElem?_cons_zero, List.getElem?_cons_succ]; rfl)); (case hw => rfl); (case hs => kernel_rfl); (case hf => kernel_rfl); (case hr => kernel_rfl); (case hQ => exact fun _ _ _ h => h); (case hS => assumption); (try simp only [Act.put, List.setIfInBounds_toArray, List.set_cons_zero, List.set_cons_succ, Nat.reduceAdd])))
            change wpAnyH _ _ _ _ _ _ _ _ _
            refine wpAnyH_done (by kernel_rfl) ?_ _
            go_wp2_with fail
            go_meet
            exact ⟨vbool (by rw [hres]; rfl), hS0⟩
          · have hres : stepOk l k x = false := by rw [hso]; cases ho : x.one; rfl; have := hone.out.1 ho; omega
            have f0 : ¬ (x.place < 2) := by omega
            have d0 : decide (x.place < 2) = false := decide_eq_false f0
            have f1 : 128 ≤ x.place := by omega
            have d1 : decide (128 ≤ x.place) = true := decide_eq_true f1
            clear hso
            let S : World → Prop := fun w' => Below Y.heap.size Y w'
            have hS0 : S Y.drew := (Below.refl _ _).drew
            have r32 := fun w' (h : S w') => ((show Below Y.heap.size Y w' from h).cell (p := ⟨wr.heap.size, 32, none⟩) l4).trans c32
            have r33 := fun w' (h : S w') => ((show Below Y.heap.size Y w' from h).cell (p := ⟨wr.heap.size, 33, none⟩) l4).trans c33
            have r34 := fun w' (h : S w') => ((show Below Y.heap.size Y w' from h).cell (p := ⟨wr.heap.size, 34, none⟩) l4).trans c34
            have qk := fun w' (h : S w') => bRange (show Below Y.heap.size Y w' from h) l4 rk
            clear c32 c33 c34 rk
            refine wp_region_held (S := S) (by kernel_rfl) ?_
            change wpAnyH _ _ _ _ S _ _ _ Y.drew
            change At 0 _
            iterate 3 (first | (apply tkA; (case hi => (simp only [List.getElem?_toArray, List.getElem?_cons_zero, List.getElem?_cons_succ]; rfl)); (case hw => rfl); (case hy => (intro w' hSw; (try simp only [S] at hSw); go_simp; (try with_reducible rfl))); (case hs => kernel_rfl); (case hf => kernel_rfl); (case hr => kernel_rfl); (case hQ => exact fun _ _ _ h => h); (case hS => assumption); (try simp only [Act.put, List.setIfInBounds_toArray, List.set_cons_zero, List.set_cons_succ, Nat.reduceAdd])) | (apply skA; (case hi => (simp only [List.getElem?_toArray, List.getElem?_cons_zero, List.getElem?_cons_succ]; rfl)); (case hw => rfl); (case hs => kernel_rfl); (case hf => kernel_rfl); (case hr => kernel_rfl); (case hQ => exact fun _ _ _ h => h); (case hS => assumption); (try simp only [Act.put, List.setIfInBounds_toArray, List.set_cons_zero, List.set_cons_succ, Nat.reduceAdd])))
            change wpAnyH _ _ _ _ _ _ _ _ _
            change At 3 _
            iterate 12 (first | (apply tkA; (case hi => (simp only [List.getElem?_toArray, List.getElem?_cons_zero, List.getElem?_cons_succ]; rfl)); (case hw => rfl); (case hy => (intro w' hSw; (try simp only [S] at hSw); go_simp; (try with_reducible rfl))); (case hs => kernel_rfl); (case hf => kernel_rfl); (case hr => kernel_rfl); (case hQ => exact fun _ _ _ h => h); (case hS => assumption); (try simp only [Act.put, List.setIfInBounds_toArray, List.set_cons_zero, List.set_cons_succ, Nat.reduceAdd])) | (apply skA; (case hi => (simp only [List.getElem?_toArray, List.getElem?_cons_zero, List.getElem?_cons_succ]; rfl)); (case hw => rfl); (case hs => kernel_rfl); (case hf => kernel_rfl); (case hr => kernel_rfl); (case hQ => exact fun _ _ _ h => h); (case hS => assumption); (try simp only [Act.put, List.setIfInBounds_toArray, List.set_cons_zero, List.set_cons_succ, Nat.reduceAdd])))
            change wpAnyH _ _ _ _ _ _ _ _ _
            change At 15 _
            iterate 37 (first | (apply tkA; (case hi => (simp only [List.getElem?_toArray, List.getElem?_cons_zero, List.getElem?_cons_succ]; rfl)); (case hw => rfl); (case hy => (intro w' hSw; have q1 := r32 w' hSw; have q2 := r33 w' hSw; have q3 := r34 w' hSw; (try simp only [S] at hSw); go_simp; (try with_reducible rfl))); (case hs => kernel_rfl); (case hf => kernel_rfl); (case hr => kernel_rfl); (case hQ => exact fun _ _ _ h => h); (case hS => assumption); (try simp only [Act.put, List.setIfInBounds_toArray, List.set_cons_zero, List.set_cons_succ, Nat.reduceAdd])) | (apply skA; (case hi => (simp only [List.getElem?_toArray, List.getElem?_cons_zero, List.getElem?_cons_succ]; rfl)); (case hw => rfl); (case hs => kernel_rfl); (case hf => kernel_rfl); (case hr => kernel_rfl); (case hQ => exact fun _ _ _ h => h); (case hS => assumption); (try simp only [Act.put, List.setIfInBounds_toArray, List.set_cons_zero, List.set_cons_succ, Nat.reduceAdd])))
            change wpAnyH _ _ _ _ _ _ _ _ _
            refine wpAnyH_done (by kernel_rfl) ?_ _
            go_wp2_with fail
            go_meet
            exact ⟨vbool (by rw [hres]; rfl), hS0⟩
          · have hres : stepOk l k x = false := by rw [hso]; cases ho : x.one; rfl; have := hone.out.1 ho; omega
            have f0 : ¬ (x.place < 2) := by omega
            have d0 : decide (x.place < 2) = false := decide_eq_false f0
            have f1 : ¬ (128 ≤ x.place) := by omega
            have d1 : decide (128 ≤ x.place) = false := decide_eq_false f1
            have f2 : x.blocks < 1 := by omega
            have d2 : decide (x.blocks < 1) = true := decide_eq_true f2
            clear hso
            let S : World → Prop := fun w' => Below Y.heap.size Y w'
            have hS0 : S Y.drew := (Below.refl _ _).drew
            have r32 := fun w' (h : S w') => ((show Below Y.heap.size Y w' from h).cell (p := ⟨wr.heap.size, 32, none⟩) l4).trans c32
            have r33 := fun w' (h : S w') => ((show Below Y.heap.size Y w' from h).cell (p := ⟨wr.heap.size, 33, none⟩) l4).trans c33
            have r34 := fun w' (h : S w') => ((show Below Y.heap.size Y w' from h).cell (p := ⟨wr.heap.size, 34, none⟩) l4).trans c34
            have qk := fun w' (h : S w') => bRange (show Below Y.heap.size Y w' from h) l4 rk
            clear c32 c33 c34 rk
            refine wp_region_held (S := S) (by kernel_rfl) ?_
            change wpAnyH _ _ _ _ S _ _ _ Y.drew
            change At 0 _
            iterate 3 (first | (apply tkA; (case hi => (simp only [List.getElem?_toArray, List.getElem?_cons_zero, List.getElem?_cons_succ]; rfl)); (case hw => rfl); (case hy => (intro w' hSw; (try simp only [S] at hSw); go_simp; (try with_reducible rfl))); (case hs => kernel_rfl); (case hf => kernel_rfl); (case hr => kernel_rfl); (case hQ => exact fun _ _ _ h => h); (case hS => assumption); (try simp only [Act.put, List.setIfInBounds_toArray, List.set_cons_zero, List.set_cons_succ, Nat.reduceAdd])) | (apply skA; (case hi => (simp only [List.getElem?_toArray, List.getElem?_cons_zero, List.getElem?_cons_succ]; rfl)); (case hw => rfl); (case hs => kernel_rfl); (case hf => kernel_rfl); (case hr => kernel_rfl); (case hQ => exact fun _ _ _ h => h); (case hS => assumption); (try simp only [Act.put, List.setIfInBounds_toArray, List.set_cons_zero, List.set_cons_succ, Nat.reduceAdd])))
            change wpAnyH _ _ _ _ _ _ _ _ _
            change At 3 _
            iterate 12 (first | (apply tkA; (case hi => (simp only [List.getElem?_toArray, List.getElem?_cons_zero, List.getElem?_cons_succ]; rfl)); (case hw => rfl); (case hy => (intro w' hSw; (try simp only [S] at hSw); go_simp; (try with_reducible rfl))); (case hs => kernel_rfl); (case hf => kernel_rfl); (case hr => kernel_rfl); (case hQ => exact fun _ _ _ h => h); (case hS => assumption); (try simp only [Act.put, List.setIfInBounds_toArray, List.set_cons_zero, List.set_cons_succ, Nat.reduceAdd])) | (apply skA; (case hi => (simp only [List.getElem?_toArray, List.getElem?_cons_zero, List.getElem?_cons_succ]; rfl)); (case hw => rfl); (case hs => kernel_rfl); (case hf => kernel_rfl); (case hr => kernel_rfl); (case hQ => exact fun _ _ _ h => h); (case hS => assumption); (try simp only [Act.put, List.setIfInBounds_toArray, List.set_cons_zero, List.set_cons_succ, Nat.reduceAdd])))
            change wpAnyH _ _ _ _ _ _ _ _ _
            change At 15 _
            iterate 37 (first | (apply tkA; (case hi => (simp only [List.getElem?_toArray, List.getElem?_cons_zero, List.getElem?_cons_succ]; rfl)); (case hw => rfl); (case hy => (intro w' hSw; have q1 := r32 w' hSw; have q2 := r33 w' hSw; have q3 := r34 w' hSw; (try simp only [S] at hSw); go_simp; (try with_reducible rfl))); (case hs => kernel_rfl); (case hf => kernel_rfl); (case hr => kernel_rfl); (case hQ => exact fun _ _ _ h => h); (case hS => assumption); (try simp only [Act.put, List.setIfInBounds_toArray, List.set_cons_zero, List.set_cons_succ, Nat.reduceAdd])) | (apply skA; (case hi => (simp only [List.getElem?_toArray, List.getElem?_cons_zero, List.getElem?_cons_succ]; rfl)); (case hw => rfl); (case hs => kernel_rfl); (case hf => kernel_rfl); (case hr => kernel_rfl); (case hQ => exact fun _ _ _ h => h); (case hS => assumption); (try simp only [Act.put, List.setIfInBounds_toArray, List.set_cons_zero, List.set_cons_succ, Nat.reduceAdd])))
            change wpAnyH _ _ _ _ _ _ _ _ _
            refine wpAnyH_done (by kernel_rfl) ?_ _
            go_wp2_with fail
            go_meet
            exact ⟨vbool (by rw [hres]; rfl), hS0⟩
          · have hres : stepOk l k x = false := by rw [hso]; cases ho : x.one; rfl; have := hone.out.1 ho; omega
            have f0 : ¬ (x.place < 2) := by omega
            have d0 : decide (x.place < 2) = false := decide_eq_false f0
            have f1 : ¬ (128 ≤ x.place) := by omega
            have d1 : decide (128 ≤ x.place) = false := decide_eq_false f1
            have f2 : ¬ (x.blocks < 1) := by omega
            have d2 : decide (x.blocks < 1) = false := decide_eq_false f2
            have f3 : 8 < x.blocks := by omega
            have d3 : decide (8 < x.blocks) = true := decide_eq_true f3
            clear hso
            let S : World → Prop := fun w' => Below Y.heap.size Y w'
            have hS0 : S Y.drew := (Below.refl _ _).drew
            have r32 := fun w' (h : S w') => ((show Below Y.heap.size Y w' from h).cell (p := ⟨wr.heap.size, 32, none⟩) l4).trans c32
            have r33 := fun w' (h : S w') => ((show Below Y.heap.size Y w' from h).cell (p := ⟨wr.heap.size, 33, none⟩) l4).trans c33
            have r34 := fun w' (h : S w') => ((show Below Y.heap.size Y w' from h).cell (p := ⟨wr.heap.size, 34, none⟩) l4).trans c34
            have qk := fun w' (h : S w') => bRange (show Below Y.heap.size Y w' from h) l4 rk
            clear c32 c33 c34 rk
            refine wp_region_held (S := S) (by kernel_rfl) ?_
            change wpAnyH _ _ _ _ S _ _ _ Y.drew
            change At 0 _
            iterate 3 (first | (apply tkA; (case hi => (simp only [List.getElem?_toArray, List.getElem?_cons_zero, List.getElem?_cons_succ]; rfl)); (case hw => rfl); (case hy => (intro w' hSw; (try simp only [S] at hSw); go_simp; (try with_reducible rfl))); (case hs => kernel_rfl); (case hf => kernel_rfl); (case hr => kernel_rfl); (case hQ => exact fun _ _ _ h => h); (case hS => assumption); (try simp only [Act.put, List.setIfInBounds_toArray, List.set_cons_zero, List.set_cons_succ, Nat.reduceAdd])) | (apply skA; (case hi => (simp only [List.getElem?_toArray, List.getElem?_cons_zero, List.getElem?_cons_succ]; rfl)); (case hw => rfl); (case hs => kernel_rfl); (case hf => kernel_rfl); (case hr => kernel_rfl); (case hQ => exact fun _ _ _ h => h); (case hS => assumption); (try simp only [Act.put, List.setIfInBounds_toArray, List.set_cons_zero, List.set_cons_succ, Nat.reduceAdd])))
            change wpAnyH _ _ _ _ _ _ _ _ _
            change At 3 _
            iterate 12 (first | (apply tkA; (case hi => (simp only [List.getElem?_toArray, List.getElem?_cons_zero, List.getElem?_cons_succ]; rfl)); (case hw => rfl); (case hy => (intro w' hSw; (try simp only [S] at hSw); go_simp; (try with_reducible rfl))); (case hs => kernel_rfl); (case hf => kernel_rfl); (case hr => kernel_rfl); (case hQ => exact fun _ _ _ h => h); (case hS => assumption); (try simp only [Act.put, List.setIfInBounds_toArray, List.set_cons_zero, List.set_cons_succ, Nat.reduceAdd])) | (apply skA; (case hi => (simp only [List.getElem?_toArray, List.getElem?_cons_zero, List.getElem?_cons_succ]; rfl)); (case hw => rfl); (case hs => kernel_rfl); (case hf => kernel_rfl); (case hr => kernel_rfl); (case hQ => exact fun _ _ _ h => h); (case hS => assumption); (try simp only [Act.put, List.setIfInBounds_toArray, List.set_cons_zero, List.set_cons_succ, Nat.reduceAdd])))
            change wpAnyH _ _ _ _ _ _ _ _ _
            change At 15 _
            iterate 37 (first | (apply tkA; (case hi => (simp only [List.getElem?_toArray, List.getElem?_cons_zero, List.getElem?_cons_succ]; rfl)); (case hw => rfl); (case hy => (intro w' hSw; have q1 := r32 w' hSw; have q2 := r33 w' hSw; have q3 := r34 w' hSw; (try simp only [S] at hSw); go_simp; (try with_reducible rfl))); (case hs => kernel_rfl); (case hf => kernel_rfl); (case hr => kernel_rfl); (case hQ => exact fun _ _ _ h => h); (case hS => assumption); (try simp only [Act.put, List.setIfInBounds_toArray, List.set_cons_zero, List.set_cons_succ, Nat.reduceAdd])) | (apply skA; (case hi => (simp only [List.getElem?_toArray, List.getElem?_cons_zero, List.getElem?_cons_succ]; rfl)); (case hw => rfl); (case hs => kernel_rfl); (case hf => kernel_rfl); (case hr => kernel_rfl); (case hQ => exact fun _ _ _ h => h); (case hS => assumption); (try simp only [Act.put, List.setIfInBounds_toArray, List.set_cons_zero, List.set_cons_succ, Nat.reduceAdd])))
            change wpAnyH _ _ _ _ _ _ _ _ _
            refine wpAnyH_done (by kernel_rfl) ?_ _
            go_wp2_with fail
            go_meet
            exact ⟨vbool (by rw [hres]; rfl), hS0⟩
          · have hres : stepOk l k x = false := by rw [hso]; cases ho : x.one; rfl; have := hone.out.1 ho; omega
            have f0 : ¬ (x.place < 2) := by omega
            have d0 : decide (x.place < 2) = false := decide_eq_false f0
            have f1 : ¬ (128 ≤ x.place) := by omega
            have d1 : decide (128 ≤ x.place) = false := decide_eq_false f1
            have f2 : ¬ (x.blocks < 1) := by omega
            have d2 : decide (x.blocks < 1) = false := decide_eq_false f2
            have f3 : ¬ (8 < x.blocks) := by omega
            have d3 : decide (8 < x.blocks) = false := decide_eq_false f3
            have f4 : 128 - x.place < x.blocks := by omega
            have d4 : decide (128 - x.place < x.blocks) = true := decide_eq_true f4
            have w59 : IntKind.i64.wrap (128 - x.place) = 128 - x.place := wrap_small _ (by omega) (by omega)
            clear hso
            let S : World → Prop := fun w' => Below Y.heap.size Y w'
            have hS0 : S Y.drew := (Below.refl _ _).drew
            have r32 := fun w' (h : S w') => ((show Below Y.heap.size Y w' from h).cell (p := ⟨wr.heap.size, 32, none⟩) l4).trans c32
            have r33 := fun w' (h : S w') => ((show Below Y.heap.size Y w' from h).cell (p := ⟨wr.heap.size, 33, none⟩) l4).trans c33
            have r34 := fun w' (h : S w') => ((show Below Y.heap.size Y w' from h).cell (p := ⟨wr.heap.size, 34, none⟩) l4).trans c34
            have qk := fun w' (h : S w') => bRange (show Below Y.heap.size Y w' from h) l4 rk
            clear c32 c33 c34 rk
            refine wp_region_held (S := S) (by kernel_rfl) ?_
            change wpAnyH _ _ _ _ S _ _ _ Y.drew
            change At 0 _
            iterate 3 (first | (apply tkA; (case hi => (simp only [List.getElem?_toArray, List.getElem?_cons_zero, List.getElem?_cons_succ]; rfl)); (case hw => rfl); (case hy => (intro w' hSw; (try simp only [S] at hSw); go_simp; (try with_reducible rfl))); (case hs => kernel_rfl); (case hf => kernel_rfl); (case hr => kernel_rfl); (case hQ => exact fun _ _ _ h => h); (case hS => assumption); (try simp only [Act.put, List.setIfInBounds_toArray, List.set_cons_zero, List.set_cons_succ, Nat.reduceAdd])) | (apply skA; (case hi => (simp only [List.getElem?_toArray, List.getElem?_cons_zero, List.getElem?_cons_succ]; rfl)); (case hw => rfl); (case hs => kernel_rfl); (case hf => kernel_rfl); (case hr => kernel_rfl); (case hQ => exact fun _ _ _ h => h); (case hS => assumption); (try simp only [Act.put, List.setIfInBounds_toArray, List.set_cons_zero, List.set_cons_succ, Nat.reduceAdd])))
            change wpAnyH _ _ _ _ _ _ _ _ _
            change At 3 _
            iterate 12 (first | (apply tkA; (case hi => (simp only [List.getElem?_toArray, List.getElem?_cons_zero, List.getElem?_cons_succ]; rfl)); (case hw => rfl); (case hy => (intro w' hSw; (try simp only [S] at hSw); go_simp; (try with_reducible rfl))); (case hs => kernel_rfl); (case hf => kernel_rfl); (case hr => kernel_rfl); (case hQ => exact fun _ _ _ h => h); (case hS => assumption); (try simp only [Act.put, List.setIfInBounds_toArray, List.set_cons_zero, List.set_cons_succ, Nat.reduceAdd])) | (apply skA; (case hi => (simp only [List.getElem?_toArray, List.getElem?_cons_zero, List.getElem?_cons_succ]; rfl)); (case hw => rfl); (case hs => kernel_rfl); (case hf => kernel_rfl); (case hr => kernel_rfl); (case hQ => exact fun _ _ _ h => h); (case hS => assumption); (try simp only [Act.put, List.setIfInBounds_toArray, List.set_cons_zero, List.set_cons_succ, Nat.reduceAdd])))
            change wpAnyH _ _ _ _ _ _ _ _ _
            change At 15 _
            iterate 37 (first | (apply tkA; (case hi => (simp only [List.getElem?_toArray, List.getElem?_cons_zero, List.getElem?_cons_succ]; rfl)); (case hw => rfl); (case hy => (intro w' hSw; have q1 := r32 w' hSw; have q2 := r33 w' hSw; have q3 := r34 w' hSw; (try simp only [S] at hSw); go_simp; (try with_reducible rfl))); (case hs => kernel_rfl); (case hf => kernel_rfl); (case hr => kernel_rfl); (case hQ => exact fun _ _ _ h => h); (case hS => assumption); (try simp only [Act.put, List.setIfInBounds_toArray, List.set_cons_zero, List.set_cons_succ, Nat.reduceAdd])) | (apply skA; (case hi => (simp only [List.getElem?_toArray, List.getElem?_cons_zero, List.getElem?_cons_succ]; rfl)); (case hw => rfl); (case hs => kernel_rfl); (case hf => kernel_rfl); (case hr => kernel_rfl); (case hQ => exact fun _ _ _ h => h); (case hS => assumption); (try simp only [Act.put, List.setIfInBounds_toArray, List.set_cons_zero, List.set_cons_succ, Nat.reduceAdd])))
            change wpAnyH _ _ _ _ _ _ _ _ _
            refine wpAnyH_done (by kernel_rfl) ?_ _
            go_wp2_with fail
            go_meet
            exact ⟨vbool (by rw [hres]; rfl), hS0⟩
          · have hres : stepOk l k x = false := by rw [hso]; cases ho : x.one; rfl; have := hone.out.1 ho; omega
            have f0 : ¬ (x.place < 2) := by omega
            have d0 : decide (x.place < 2) = false := decide_eq_false f0
            have f1 : ¬ (128 ≤ x.place) := by omega
            have d1 : decide (128 ≤ x.place) = false := decide_eq_false f1
            have f2 : ¬ (x.blocks < 1) := by omega
            have d2 : decide (x.blocks < 1) = false := decide_eq_false f2
            have f3 : ¬ (8 < x.blocks) := by omega
            have d3 : decide (8 < x.blocks) = false := decide_eq_false f3
            have f4 : ¬ (128 - x.place < x.blocks) := by omega
            have d4 : decide (128 - x.place < x.blocks) = false := decide_eq_false f4
            have f5 : x.refs < 0 := by omega
            have d5 : decide (x.refs < 0) = true := decide_eq_true f5
            have w59 : IntKind.i64.wrap (128 - x.place) = 128 - x.place := wrap_small _ (by omega) (by omega)
            clear hso
            let S : World → Prop := fun w' => Below Y.heap.size Y w'
            have hS0 : S Y.drew := (Below.refl _ _).drew
            have r32 := fun w' (h : S w') => ((show Below Y.heap.size Y w' from h).cell (p := ⟨wr.heap.size, 32, none⟩) l4).trans c32
            have r33 := fun w' (h : S w') => ((show Below Y.heap.size Y w' from h).cell (p := ⟨wr.heap.size, 33, none⟩) l4).trans c33
            have r34 := fun w' (h : S w') => ((show Below Y.heap.size Y w' from h).cell (p := ⟨wr.heap.size, 34, none⟩) l4).trans c34
            have qk := fun w' (h : S w') => bRange (show Below Y.heap.size Y w' from h) l4 rk
            clear c32 c33 c34 rk
            refine wp_region_held (S := S) (by kernel_rfl) ?_
            change wpAnyH _ _ _ _ S _ _ _ Y.drew
            change At 0 _
            iterate 3 (first | (apply tkA; (case hi => (simp only [List.getElem?_toArray, List.getElem?_cons_zero, List.getElem?_cons_succ]; rfl)); (case hw => rfl); (case hy => (intro w' hSw; (try simp only [S] at hSw); go_simp; (try with_reducible rfl))); (case hs => kernel_rfl); (case hf => kernel_rfl); (case hr => kernel_rfl); (case hQ => exact fun _ _ _ h => h); (case hS => assumption); (try simp only [Act.put, List.setIfInBounds_toArray, List.set_cons_zero, List.set_cons_succ, Nat.reduceAdd])) | (apply skA; (case hi => (simp only [List.getElem?_toArray, List.getElem?_cons_zero, List.getElem?_cons_succ]; rfl)); (case hw => rfl); (case hs => kernel_rfl); (case hf => kernel_rfl); (case hr => kernel_rfl); (case hQ => exact fun _ _ _ h => h); (case hS => assumption); (try simp only [Act.put, List.setIfInBounds_toArray, List.set_cons_zero, List.set_cons_succ, Nat.reduceAdd])))
            change wpAnyH _ _ _ _ _ _ _ _ _
            change At 3 _
            iterate 12 (first | (apply tkA; (case hi => (simp only [List.getElem?_toArray, List.getElem?_cons_zero, List.getElem?_cons_succ]; rfl)); (case hw => rfl); (case hy => (intro w' hSw; (try simp only [S] at hSw); go_simp; (try with_reducible rfl))); (case hs => kernel_rfl); (case hf => kernel_rfl); (case hr => kernel_rfl); (case hQ => exact fun _ _ _ h => h); (case hS => assumption); (try simp only [Act.put, List.setIfInBounds_toArray, List.set_cons_zero, List.set_cons_succ, Nat.reduceAdd])) | (apply skA; (case hi => (simp only [List.getElem?_toArray, List.getElem?_cons_zero, List.getElem?_cons_succ]; rfl)); (case hw => rfl); (case hs => kernel_rfl); (case hf => kernel_rfl); (case hr => kernel_rfl); (case hQ => exact fun _ _ _ h => h); (case hS => assumption); (try simp only [Act.put, List.setIfInBounds_toArray, List.set_cons_zero, List.set_cons_succ, Nat.reduceAdd])))
            change wpAnyH _ _ _ _ _ _ _ _ _
            change At 15 _
            iterate 37 (first | (apply tkA; (case hi => (simp only [List.getElem?_toArray, List.getElem?_cons_zero, List.getElem?_cons_succ]; rfl)); (case hw => rfl); (case hy => (intro w' hSw; have q1 := r32 w' hSw; have q2 := r33 w' hSw; have q3 := r34 w' hSw; (try simp only [S] at hSw); go_simp; (try with_reducible rfl))); (case hs => kernel_rfl); (case hf => kernel_rfl); (case hr => kernel_rfl); (case hQ => exact fun _ _ _ h => h); (case hS => assumption); (try simp only [Act.put, List.setIfInBounds_toArray, List.set_cons_zero, List.set_cons_succ, Nat.reduceAdd])) | (apply skA; (case hi => (simp only [List.getElem?_toArray, List.getElem?_cons_zero, List.getElem?_cons_succ]; rfl)); (case hw => rfl); (case hs => kernel_rfl); (case hf => kernel_rfl); (case hr => kernel_rfl); (case hQ => exact fun _ _ _ h => h); (case hS => assumption); (try simp only [Act.put, List.setIfInBounds_toArray, List.set_cons_zero, List.set_cons_succ, Nat.reduceAdd])))
            change wpAnyH _ _ _ _ _ _ _ _ _
            refine wpAnyH_done (by kernel_rfl) ?_ _
            go_wp2_with fail
            go_meet
            exact ⟨vbool (by rw [hres]; rfl), hS0⟩
          · have hres : stepOk l k x = false := by rw [hso]; cases ho : x.one; rfl; have := hone.out.1 ho; omega
            have f0 : ¬ (x.place < 2) := by omega
            have d0 : decide (x.place < 2) = false := decide_eq_false f0
            have f1 : ¬ (128 ≤ x.place) := by omega
            have d1 : decide (128 ≤ x.place) = false := decide_eq_false f1
            have f2 : ¬ (x.blocks < 1) := by omega
            have d2 : decide (x.blocks < 1) = false := decide_eq_false f2
            have f3 : ¬ (8 < x.blocks) := by omega
            have d3 : decide (8 < x.blocks) = false := decide_eq_false f3
            have f4 : ¬ (128 - x.place < x.blocks) := by omega
            have d4 : decide (128 - x.place < x.blocks) = false := decide_eq_false f4
            have f5 : ¬ (x.refs < 0) := by omega
            have d5 : decide (x.refs < 0) = false := decide_eq_false f5
            have f6 : 1000 < x.refs := by omega
            have d6 : decide (1000 < x.refs) = true := decide_eq_true f6
            have w59 : IntKind.i64.wrap (128 - x.place) = 128 - x.place := wrap_small _ (by omega) (by omega)
            clear hso
            let S : World → Prop := fun w' => Below Y.heap.size Y w'
            have hS0 : S Y.drew := (Below.refl _ _).drew
            have r32 := fun w' (h : S w') => ((show Below Y.heap.size Y w' from h).cell (p := ⟨wr.heap.size, 32, none⟩) l4).trans c32
            have r33 := fun w' (h : S w') => ((show Below Y.heap.size Y w' from h).cell (p := ⟨wr.heap.size, 33, none⟩) l4).trans c33
            have r34 := fun w' (h : S w') => ((show Below Y.heap.size Y w' from h).cell (p := ⟨wr.heap.size, 34, none⟩) l4).trans c34
            have qk := fun w' (h : S w') => bRange (show Below Y.heap.size Y w' from h) l4 rk
            clear c32 c33 c34 rk
            refine wp_region_held (S := S) (by kernel_rfl) ?_
            change wpAnyH _ _ _ _ S _ _ _ Y.drew
            change At 0 _
            iterate 3 (first | (apply tkA; (case hi => (simp only [List.getElem?_toArray, List.getElem?_cons_zero, List.getElem?_cons_succ]; rfl)); (case hw => rfl); (case hy => (intro w' hSw; (try simp only [S] at hSw); go_simp; (try with_reducible rfl))); (case hs => kernel_rfl); (case hf => kernel_rfl); (case hr => kernel_rfl); (case hQ => exact fun _ _ _ h => h); (case hS => assumption); (try simp only [Act.put, List.setIfInBounds_toArray, List.set_cons_zero, List.set_cons_succ, Nat.reduceAdd])) | (apply skA; (case hi => (simp only [List.getElem?_toArray, List.getElem?_cons_zero, List.getElem?_cons_succ]; rfl)); (case hw => rfl); (case hs => kernel_rfl); (case hf => kernel_rfl); (case hr => kernel_rfl); (case hQ => exact fun _ _ _ h => h); (case hS => assumption); (try simp only [Act.put, List.setIfInBounds_toArray, List.set_cons_zero, List.set_cons_succ, Nat.reduceAdd])))
            change wpAnyH _ _ _ _ _ _ _ _ _
            change At 3 _
            iterate 12 (first | (apply tkA; (case hi => (simp only [List.getElem?_toArray, List.getElem?_cons_zero, List.getElem?_cons_succ]; rfl)); (case hw => rfl); (case hy => (intro w' hSw; (try simp only [S] at hSw); go_simp; (try with_reducible rfl))); (case hs => kernel_rfl); (case hf => kernel_rfl); (case hr => kernel_rfl); (case hQ => exact fun _ _ _ h => h); (case hS => assumption); (try simp only [Act.put, List.setIfInBounds_toArray, List.set_cons_zero, List.set_cons_succ, Nat.reduceAdd])) | (apply skA; (case hi => (simp only [List.getElem?_toArray, List.getElem?_cons_zero, List.getElem?_cons_succ]; rfl)); (case hw => rfl); (case hs => kernel_rfl); (case hf => kernel_rfl); (case hr => kernel_rfl); (case hQ => exact fun _ _ _ h => h); (case hS => assumption); (try simp only [Act.put, List.setIfInBounds_toArray, List.set_cons_zero, List.set_cons_succ, Nat.reduceAdd])))
            change wpAnyH _ _ _ _ _ _ _ _ _
            change At 15 _
            iterate 37 (first | (apply tkA; (case hi => (simp only [List.getElem?_toArray, List.getElem?_cons_zero, List.getElem?_cons_succ]; rfl)); (case hw => rfl); (case hy => (intro w' hSw; have q1 := r32 w' hSw; have q2 := r33 w' hSw; have q3 := r34 w' hSw; (try simp only [S] at hSw); go_simp; (try with_reducible rfl))); (case hs => kernel_rfl); (case hf => kernel_rfl); (case hr => kernel_rfl); (case hQ => exact fun _ _ _ h => h); (case hS => assumption); (try simp only [Act.put, List.setIfInBounds_toArray, List.set_cons_zero, List.set_cons_succ, Nat.reduceAdd])) | (apply skA; (case hi => (simp only [List.getElem?_toArray, List.getElem?_cons_zero, List.getElem?_cons_succ]; rfl)); (case hw => rfl); (case hs => kernel_rfl); (case hf => kernel_rfl); (case hr => kernel_rfl); (case hQ => exact fun _ _ _ h => h); (case hS => assumption); (try simp only [Act.put, List.setIfInBounds_toArray, List.set_cons_zero, List.set_cons_succ, Nat.reduceAdd])))
            change wpAnyH _ _ _ _ _ _ _ _ _
            refine wpAnyH_done (by kernel_rfl) ?_ _
            go_wp2_with fail
            go_meet
            exact ⟨vbool (by rw [hres]; rfl), hS0⟩
          · have hres : stepOk l k x = true := by rw [hso]; exact hone.out.2 ⟨g0, g1, g2, g3, g4, g5, g6⟩
            have f0 : ¬ (x.place < 2) := by omega
            have d0 : decide (x.place < 2) = false := decide_eq_false f0
            have f1 : ¬ (128 ≤ x.place) := by omega
            have d1 : decide (128 ≤ x.place) = false := decide_eq_false f1
            have f2 : ¬ (x.blocks < 1) := by omega
            have d2 : decide (x.blocks < 1) = false := decide_eq_false f2
            have f3 : ¬ (8 < x.blocks) := by omega
            have d3 : decide (8 < x.blocks) = false := decide_eq_false f3
            have f4 : ¬ (128 - x.place < x.blocks) := by omega
            have d4 : decide (128 - x.place < x.blocks) = false := decide_eq_false f4
            have f5 : ¬ (x.refs < 0) := by omega
            have d5 : decide (x.refs < 0) = false := decide_eq_false f5
            have f6 : ¬ (1000 < x.refs) := by omega
            have d6 : decide (1000 < x.refs) = false := decide_eq_false f6
            have w59 : IntKind.i64.wrap (128 - x.place) = 128 - x.place := wrap_small _ (by omega) (by omega)
            clear hso
            let S : World → Prop := fun w' => Below Y.heap.size Y w'
            have hS0 : S Y.drew := (Below.refl _ _).drew
            have r32 := fun w' (h : S w') => ((show Below Y.heap.size Y w' from h).cell (p := ⟨wr.heap.size, 32, none⟩) l4).trans c32
            have r33 := fun w' (h : S w') => ((show Below Y.heap.size Y w' from h).cell (p := ⟨wr.heap.size, 33, none⟩) l4).trans c33
            have r34 := fun w' (h : S w') => ((show Below Y.heap.size Y w' from h).cell (p := ⟨wr.heap.size, 34, none⟩) l4).trans c34
            have qk := fun w' (h : S w') => bRange (show Below Y.heap.size Y w' from h) l4 rk
            clear c32 c33 c34 rk
            refine wp_region_held (S := S) (by kernel_rfl) ?_
            change wpAnyH _ _ _ _ S _ _ _ Y.drew
            change At 0 _
            iterate 3 (first | (apply tkA; (case hi => (simp only [List.getElem?_toArray, List.getElem?_cons_zero, List.getElem?_cons_succ]; rfl)); (case hw => rfl); (case hy => (intro w' hSw; (try simp only [S] at hSw); go_simp; (try with_reducible rfl))); (case hs => kernel_rfl); (case hf => kernel_rfl); (case hr => kernel_rfl); (case hQ => exact fun _ _ _ h => h); (case hS => assumption); (try simp only [Act.put, List.setIfInBounds_toArray, List.set_cons_zero, List.set_cons_succ, Nat.reduceAdd])) | (apply skA; (case hi => (simp only [List.getElem?_toArray, List.getElem?_cons_zero, List.getElem?_cons_succ]; rfl)); (case hw => rfl); (case hs => kernel_rfl); (case hf => kernel_rfl); (case hr => kernel_rfl); (case hQ => exact fun _ _ _ h => h); (case hS => assumption); (try simp only [Act.put, List.setIfInBounds_toArray, List.set_cons_zero, List.set_cons_succ, Nat.reduceAdd])))
            change wpAnyH _ _ _ _ _ _ _ _ _
            change At 3 _
            iterate 12 (first | (apply tkA; (case hi => (simp only [List.getElem?_toArray, List.getElem?_cons_zero, List.getElem?_cons_succ]; rfl)); (case hw => rfl); (case hy => (intro w' hSw; (try simp only [S] at hSw); go_simp; (try with_reducible rfl))); (case hs => kernel_rfl); (case hf => kernel_rfl); (case hr => kernel_rfl); (case hQ => exact fun _ _ _ h => h); (case hS => assumption); (try simp only [Act.put, List.setIfInBounds_toArray, List.set_cons_zero, List.set_cons_succ, Nat.reduceAdd])) | (apply skA; (case hi => (simp only [List.getElem?_toArray, List.getElem?_cons_zero, List.getElem?_cons_succ]; rfl)); (case hw => rfl); (case hs => kernel_rfl); (case hf => kernel_rfl); (case hr => kernel_rfl); (case hQ => exact fun _ _ _ h => h); (case hS => assumption); (try simp only [Act.put, List.setIfInBounds_toArray, List.set_cons_zero, List.set_cons_succ, Nat.reduceAdd])))
            change wpAnyH _ _ _ _ _ _ _ _ _
            change At 15 _
            iterate 37 (first | (apply tkA; (case hi => (simp only [List.getElem?_toArray, List.getElem?_cons_zero, List.getElem?_cons_succ]; rfl)); (case hw => rfl); (case hy => (intro w' hSw; have q1 := r32 w' hSw; have q2 := r33 w' hSw; have q3 := r34 w' hSw; (try simp only [S] at hSw); go_simp; (try with_reducible rfl))); (case hs => kernel_rfl); (case hf => kernel_rfl); (case hr => kernel_rfl); (case hQ => exact fun _ _ _ h => h); (case hS => assumption); (try simp only [Act.put, List.setIfInBounds_toArray, List.set_cons_zero, List.set_cons_succ, Nat.reduceAdd])) | (apply skA; (case hi => (simp only [List.getElem?_toArray, List.getElem?_cons_zero, List.getElem?_cons_succ]; rfl)); (case hw => rfl); (case hs => kernel_rfl); (case hf => kernel_rfl); (case hr => kernel_rfl); (case hQ => exact fun _ _ _ h => h); (case hS => assumption); (try simp only [Act.put, List.setIfInBounds_toArray, List.set_cons_zero, List.set_cons_succ, Nat.reduceAdd])))
            change wpAnyH _ _ _ _ _ _ _ _ _
            refine wpAnyH_done (by kernel_rfl) ?_ _
            go_wp2_with fail
            go_meet
            exact ⟨vbool (by rw [hres]; rfl), hS0⟩
        · have hi0 : 0 < (k : Int) := by omega
          have hd0 : decide (0 < (k : Int)) = true := decide_eq_true hi0
          have hn0 : 0 < k := by omega
          have hn0' : decide (0 < k) = true := decide_eq_true hn0
          obtain ⟨K, hK⟩ : ∃ K, k - 1 = K := ⟨_, rfl⟩
          obtain ⟨y, hy⟩ : ∃ y, l[K]? = some y := ⟨_, List.getElem?_eq_getElem (by rw [HL.out.1]; omega)⟩
          have hyo := HL.out.2.ok y (List.mem_of_getElem? hy)
          obtain ⟨b', o', e, hbB', hyr⟩ := HL.out.2.entry hy
          simp only [Option.some.injEq, Addr.mk.injEq, and_true] at e
          obtain ⟨rfl, rfl⟩ := e
          have qy0 := bRange HT.out.2 hbB' (en_range hyo hyr).1
          have hbY' : b < Y.heap.size := by have := HT.out.2.size; omega
          have iY : (Try.prog.info? 71).map (·.size) = some (bvs y.key).length := by rw [bvs_len, hyo.key]; exact d32_size
          have hless := fun W => less_any hyo.key hkey W
          have hso : stepOk l k x = (x.one && lt8 y.key x.key) := by unfold stepOk; rw [decide_eq_false h0, hK, hy]; rfl
          have wK : IntKind.i64.wrap ((k : Int) - 1) = (K : Int) := by rw [wrap_small _ (by omega) (by omega)]; omega
          have hKn : (K : Int) < (n : Int) := by omega
          have hKn' : K < n := by omega
          obtain ⟨t, ht⟩ : ∃ t, lt8 y.key x.key = t := ⟨_, rfl⟩
          rw [ht] at hso
          simp only [ht] at hless
          clear hK hy hyo hyr ht hbB'
          cases t
          · have hres : stepOk l k x = false := by rw [hso, Bool.and_false]
            clear hways
            let S : World → Prop := fun w' => Below Y.heap.size Y w'
            have hS0 : S Y.drew := (Below.refl _ _).drew
            have r32 := fun w' (h : S w') => ((show Below Y.heap.size Y w' from h).cell (p := ⟨wr.heap.size, 32, none⟩) l4).trans c32
            have r33 := fun w' (h : S w') => ((show Below Y.heap.size Y w' from h).cell (p := ⟨wr.heap.size, 33, none⟩) l4).trans c33
            have r34 := fun w' (h : S w') => ((show Below Y.heap.size Y w' from h).cell (p := ⟨wr.heap.size, 34, none⟩) l4).trans c34
            have qk := fun w' (h : S w') => bRange (show Below Y.heap.size Y w' from h) l4 rk
            have qy := fun w' (h : S w') => bRange (show Below Y.heap.size Y w' from h) hbY' qy0
            clear c32 c33 c34 rk qy0
            refine wp_region_held (S := S) (by kernel_rfl) ?_
            change wpAnyH _ _ _ _ S _ _ _ Y.drew
            change At 0 _
            iterate 3 (first | (apply tkA; (case hi => (simp only [List.getElem?_toArray, List.getElem?_cons_zero, List.getElem?_cons_succ]; rfl)); (case hw => rfl); (case hy => (intro w' hSw; (try simp only [S] at hSw); go_simp; (try with_reducible rfl))); (case hs => kernel_rfl); (case hf => kernel_rfl); (case hr => kernel_rfl); (case hQ => exact fun _ _ _ h => h); (case hS => assumption); (try simp only [Act.put, List.setIfInBounds_toArray, List.set_cons_zero, List.set_cons_succ, Nat.reduceAdd])) | (apply skA; (case hi => (simp only [List.getElem?_toArray, List.getElem?_cons_zero, List.getElem?_cons_succ]; rfl)); (case hw => rfl); (case hs => kernel_rfl); (case hf => kernel_rfl); (case hr => kernel_rfl); (case hQ => exact fun _ _ _ h => h); (case hS => assumption); (try simp only [Act.put, List.setIfInBounds_toArray, List.set_cons_zero, List.set_cons_succ, Nat.reduceAdd])))
            change wpAnyH _ _ _ _ _ _ _ _ _
            change At 3 _
            iterate 5 (first | (apply tkA; (case hi => (simp only [List.getElem?_toArray, List.getElem?_cons_zero, List.getElem?_cons_succ]; rfl)); (case hw => rfl); (case hy => (intro w' hSw; (try simp only [S] at hSw); go_simp; (try with_reducible rfl))); (case hs => kernel_rfl); (case hf => kernel_rfl); (case hr => kernel_rfl); (case hQ => exact fun _ _ _ h => h); (case hS => assumption); (try simp only [Act.put, List.setIfInBounds_toArray, List.set_cons_zero, List.set_cons_succ, Nat.reduceAdd])) | (apply skA; (case hi => (simp only [List.getElem?_toArray, List.getElem?_cons_zero, List.getElem?_cons_succ]; rfl)); (case hw => rfl); (case hs => kernel_rfl); (case hf => kernel_rfl); (case hr => kernel_rfl); (case hQ => exact fun _ _ _ h => h); (case hS => assumption); (try simp only [Act.put, List.setIfInBounds_toArray, List.set_cons_zero, List.set_cons_succ, Nat.reduceAdd])))
            change wpAnyH _ _ _ _ _ _ _ _ _
            refine wpAnyH_take (i := 8) (oi := ?oi_10) (v := ?v_10) ?ho_10 ?h1_10 ?h2_10 ?h3_10 ?hq_10 (Or.inl ⟨?hw_10, ?hy_10⟩) ?hs_10 ?rest_10; (case h2_10 => kernel_rfl); (case h3_10 => kernel_rfl); (case ho_10 => (simp only [List.getElem?_toArray, List.getElem?_cons_zero, List.getElem?_cons_succ]; rfl)); (case h1_10 => kernel_rfl); (case hq_10 => exact fun _ _ _ h => h); (case hw_10 => rfl); (case hy_10 => (intro w' hSw; refine exec_load_row (x := .tmp 27) ?_ ?_ (qy w' hSw) Try.underlying71 ?_ iY <;> rfl)); (case hs_10 => assumption); (try simp only [Act.put, List.setIfInBounds_toArray, List.set_cons_zero, List.set_cons_succ])
            refine wpAnyH_take (i := 9) (oi := ?oi_1) (v := ?v_1) ?ho_1 ?h1_1 ?h2_1 ?h3_1 ?hq_1 (Or.inl ⟨?hw_1, ?hy_1⟩) ?hs_1 ?rest_1; (case h2_1 => kernel_rfl); (case h3_1 => kernel_rfl); (case ho_1 => (simp only [List.getElem?_toArray, List.getElem?_cons_zero, List.getElem?_cons_succ]; rfl)); (case h1_1 => kernel_rfl); (case hq_1 => exact fun _ _ _ h => h); (case hw_1 => rfl); (case hy_1 => (intro w' hSw; (try simp only [S] at hSw); go_simp; (try with_reducible rfl))); (case hs_1 => assumption); (try simp only [Act.put, List.setIfInBounds_toArray, List.set_cons_zero, List.set_cons_succ])
            refine wpAnyH_take (i := 10) (oi := ?oi_11) (v := ?v_11) ?ho_11 ?h1_11 ?h2_11 ?h3_11 ?hq_11 (Or.inl ⟨?hw_11, ?hy_11⟩) ?hs_11 ?rest_11; (case h2_11 => kernel_rfl); (case h3_11 => kernel_rfl); (case ho_11 => (simp only [List.getElem?_toArray, List.getElem?_cons_zero, List.getElem?_cons_succ]; rfl)); (case h1_11 => kernel_rfl); (case hq_11 => exact fun _ _ _ h => h); (case hw_11 => rfl); (case hy_11 => (intro w' hSw; refine exec_load_row (x := .tmp 29) ?_ ?_ (qk w' hSw) Try.underlying71 ?_ iD <;> rfl)); (case hs_11 => assumption); (try simp only [Act.put, List.setIfInBounds_toArray, List.set_cons_zero, List.set_cons_succ])
            refine wpAnyH_ready (rs := [11]) (by kernel_rfl) (by simp) (AllReadyH.cons (o := ?oo11_28) ?hoo11_28 (fun K hK => ?steponly28) AllReadyH.nil); (case hoo11_28 => (simp only [List.getElem?_toArray, List.getElem?_cons_zero, List.getElem?_cons_succ]; rfl))
            go_simp
            refine Calls.mono (hless _) ?_
            rintro e w31 ⟨rfl, hb31⟩
            have hS1 : S w31 := hS0.trans (hb31.mono (Nat.le_refl _))
            refine hK.out _ _ hS1 (fun _ => ?_)
            clear hK K
            (try simp only [Act.put, List.setIfInBounds_toArray, List.set_cons_zero, List.set_cons_succ])
            change At 12 _
            iterate 3 (first | (apply tkA; (case hi => (simp only [List.getElem?_toArray, List.getElem?_cons_zero, List.getElem?_cons_succ]; rfl)); (case hw => rfl); (case hy => (intro w' hSw; (try simp only [S] at hSw); go_simp; (try with_reducible rfl))); (case hs => kernel_rfl); (case hf => kernel_rfl); (case hr => kernel_rfl); (case hQ => exact fun _ _ _ h => h); (case hS => assumption); (try simp only [Act.put, List.setIfInBounds_toArray, List.set_cons_zero, List.set_cons_succ, Nat.reduceAdd])) | (apply skA; (case hi => (simp only [List.getElem?_toArray, List.getElem?_cons_zero, List.getElem?_cons_succ]; rfl)); (case hw => rfl); (case hs => kernel_rfl); (case hf => kernel_rfl); (case hr => kernel_rfl); (case hQ => exact fun _ _ _ h => h); (case hS => assumption); (try simp only [Act.put, List.setIfInBounds_toArray, List.set_cons_zero, List.set_cons_succ, Nat.reduceAdd])))
            change wpAnyH _ _ _ _ _ _ _ _ _
            change At 15 _
            iterate 37 (first | (apply tkA; (case hi => (simp only [List.getElem?_toArray, List.getElem?_cons_zero, List.getElem?_cons_succ]; rfl)); (case hw => rfl); (case hy => (intro w' hSw; have q1 := r32 w' hSw; have q2 := r33 w' hSw; have q3 := r34 w' hSw; (try simp only [S] at hSw); go_simp; (try with_reducible rfl))); (case hs => kernel_rfl); (case hf => kernel_rfl); (case hr => kernel_rfl); (case hQ => exact fun _ _ _ h => h); (case hS => assumption); (try simp only [Act.put, List.setIfInBounds_toArray, List.set_cons_zero, List.set_cons_succ, Nat.reduceAdd])) | (apply skA; (case hi => (simp only [List.getElem?_toArray, List.getElem?_cons_zero, List.getElem?_cons_succ]; rfl)); (case hw => rfl); (case hs => kernel_rfl); (case hf => kernel_rfl); (case hr => kernel_rfl); (case hQ => exact fun _ _ _ h => h); (case hS => assumption); (try simp only [Act.put, List.setIfInBounds_toArray, List.set_cons_zero, List.set_cons_succ, Nat.reduceAdd])))
            change wpAnyH _ _ _ _ _ _ _ _ _
            refine wpAnyH_done (by kernel_rfl) ?_ _
            go_wp2_with fail
            go_meet
            exact ⟨vbool (by rw [hres]; rfl), hS1⟩
          · rw [Bool.and_true] at hso
            rcases hways with g0 | ⟨g0, g1⟩ | ⟨g0, g1, g2⟩ | ⟨g0, g1, g2, g3⟩ | ⟨g0, g1, g2, g3, g4⟩ | ⟨g0, g1, g2, g3, g4, g5⟩ | ⟨g0, g1, g2, g3, g4, g5, g6⟩ | ⟨g0, g1, g2, g3, g4, g5, g6⟩
            · have hres : stepOk l k x = false := by rw [hso]; cases ho : x.one; rfl; have := hone.out.1 ho; omega
              have f0 : x.place < 2 := by omega
              have d0 : decide (x.place < 2) = true := decide_eq_true f0
              clear hso
              let S : World → Prop := fun w' => Below Y.heap.size Y w'
              have hS0 : S Y.drew := (Below.refl _ _).drew
              have r32 := fun w' (h : S w') => ((show Below Y.heap.size Y w' from h).cell (p := ⟨wr.heap.size, 32, none⟩) l4).trans c32
              have r33 := fun w' (h : S w') => ((show Below Y.heap.size Y w' from h).cell (p := ⟨wr.heap.size, 33, none⟩) l4).trans c33
              have r34 := fun w' (h : S w') => ((show Below Y.heap.size Y w' from h).cell (p := ⟨wr.heap.size, 34, none⟩) l4).trans c34
              have qk := fun w' (h : S w') => bRange (show Below Y.heap.size Y w' from h) l4 rk
              have qy := fun w' (h : S w') => bRange (show Below Y.heap.size Y w' from h) hbY' qy0
              clear c32 c33 c34 rk qy0
              refine wp_region_held (S := S) (by kernel_rfl) ?_
              change wpAnyH _ _ _ _ S _ _ _ Y.drew
              change At 0 _
              iterate 3 (first | (apply tkA; (case hi => (simp only [List.getElem?_toArray, List.getElem?_cons_zero, List.getElem?_cons_succ]; rfl)); (case hw => rfl); (case hy => (intro w' hSw; (try simp only [S] at hSw); go_simp; (try with_reducible rfl))); (case hs => kernel_rfl); (case hf => kernel_rfl); (case hr => kernel_rfl); (case hQ => exact fun _ _ _ h => h); (case hS => assumption); (try simp only [Act.put, List.setIfInBounds_toArray, List.set_cons_zero, List.set_cons_succ, Nat.reduceAdd])) | (apply skA; (case hi => (simp only [List.getElem?_toArray, List.getElem?_cons_zero, List.getElem?_cons_succ]; rfl)); (case hw => rfl); (case hs => kernel_rfl); (case hf => kernel_rfl); (case hr => kernel_rfl); (case hQ => exact fun _ _ _ h => h); (case hS => assumption); (try simp only [Act.put, List.setIfInBounds_toArray, List.set_cons_zero, List.set_cons_succ, Nat.reduceAdd])))
              change wpAnyH _ _ _ _ _ _ _ _ _
              change At 3 _
              iterate 5 (first | (apply tkA; (case hi => (simp only [List.getElem?_toArray, List.getElem?_cons_zero, List.getElem?_cons_succ]; rfl)); (case hw => rfl); (case hy => (intro w' hSw; (try simp only [S] at hSw); go_simp; (try with_reducible rfl))); (case hs => kernel_rfl); (case hf => kernel_rfl); (case hr => kernel_rfl); (case hQ => exact fun _ _ _ h => h); (case hS => assumption); (try simp only [Act.put, List.setIfInBounds_toArray, List.set_cons_zero, List.set_cons_succ, Nat.reduceAdd])) | (apply skA; (case hi => (simp only [List.getElem?_toArray, List.getElem?_cons_zero, List.getElem?_cons_succ]; rfl)); (case hw => rfl); (case hs => kernel_rfl); (case hf => kernel_rfl); (case hr => kernel_rfl); (case hQ => exact fun _ _ _ h => h); (case hS => assumption); (try simp only [Act.put, List.setIfInBounds_toArray, List.set_cons_zero, List.set_cons_succ, Nat.reduceAdd])))
              change wpAnyH _ _ _ _ _ _ _ _ _
              refine wpAnyH_take (i := 8) (oi := ?oi_12) (v := ?v_12) ?ho_12 ?h1_12 ?h2_12 ?h3_12 ?hq_12 (Or.inl ⟨?hw_12, ?hy_12⟩) ?hs_12 ?rest_12; (case h2_12 => kernel_rfl); (case h3_12 => kernel_rfl); (case ho_12 => (simp only [List.getElem?_toArray, List.getElem?_cons_zero, List.getElem?_cons_succ]; rfl)); (case h1_12 => kernel_rfl); (case hq_12 => exact fun _ _ _ h => h); (case hw_12 => rfl); (case hy_12 => (intro w' hSw; refine exec_load_row (x := .tmp 27) ?_ ?_ (qy w' hSw) Try.underlying71 ?_ iY <;> rfl)); (case hs_12 => assumption); (try simp only [Act.put, List.setIfInBounds_toArray, List.set_cons_zero, List.set_cons_succ])
              refine wpAnyH_take (i := 9) (oi := ?oi_2) (v := ?v_2) ?ho_2 ?h1_2 ?h2_2 ?h3_2 ?hq_2 (Or.inl ⟨?hw_2, ?hy_2⟩) ?hs_2 ?rest_2; (case h2_2 => kernel_rfl); (case h3_2 => kernel_rfl); (case ho_2 => (simp only [List.getElem?_toArray, List.getElem?_cons_zero, List.getElem?_cons_succ]; rfl)); (case h1_2 => kernel_rfl); (case hq_2 => exact fun _ _ _ h => h); (case hw_2 => rfl); (case hy_2 => (intro w' hSw; (try simp only [S] at hSw); go_simp; (try with_reducible rfl))); (case hs_2 => assumption); (try simp only [Act.put, List.setIfInBounds_toArray, List.set_cons_zero, List.set_cons_succ])
              refine wpAnyH_take (i := 10) (oi := ?oi_13) (v := ?v_13) ?ho_13 ?h1_13 ?h2_13 ?h3_13 ?hq_13 (Or.inl ⟨?hw_13, ?hy_13⟩) ?hs_13 ?rest_13; (case h2_13 => kernel_rfl); (case h3_13 => kernel_rfl); (case ho_13 => (simp only [List.getElem?_toArray, List.getElem?_cons_zero, List.getElem?_cons_succ]; rfl)); (case h1_13 => kernel_rfl); (case hq_13 => exact fun _ _ _ h => h); (case hw_13 => rfl); (case hy_13 => (intro w' hSw; refine exec_load_row (x := .tmp 29) ?_ ?_ (qk w' hSw) Try.underlying71 ?_ iD <;> rfl)); (case hs_13 => assumption); (try simp only [Act.put, List.setIfInBounds_toArray, List.set_cons_zero, List.set_cons_succ])
              refine wpAnyH_ready (rs := [11]) (by kernel_rfl) (by simp) (AllReadyH.cons (o := ?oo11_29) ?hoo11_29 (fun K hK => ?steponly29) AllReadyH.nil); (case hoo11_29 => (simp only [List.getElem?_toArray, List.getElem?_cons_zero, List.getElem?_cons_succ]; rfl))
              go_simp
              refine Calls.mono (hless _) ?_
              rintro e w31 ⟨rfl, hb31⟩
              have hS1 : S w31 := hS0.trans (hb31.mono (Nat.le_refl _))
              refine hK.out _ _ hS1 (fun _ => ?_)
              clear hK K
              (try simp only [Act.put, List.setIfInBounds_toArray, List.set_cons_zero, List.set_cons_succ])
              change At 12 _
              iterate 3 (first | (apply tkA; (case hi => (simp only [List.getElem?_toArray, List.getElem?_cons_zero, List.getElem?_cons_succ]; rfl)); (case hw => rfl); (case hy => (intro w' hSw; (try simp only [S] at hSw); go_simp; (try with_reducible rfl))); (case hs => kernel_rfl); (case hf => kernel_rfl); (case hr => kernel_rfl); (case hQ => exact fun _ _ _ h => h); (case hS => assumption); (try simp only [Act.put, List.setIfInBounds_toArray, List.set_cons_zero, List.set_cons_succ, Nat.reduceAdd])) | (apply skA; (case hi => (simp only [List.getElem?_toArray, List.getElem?_cons_zero, List.getElem?_cons_succ]; rfl)); (case hw => rfl); (case hs => kernel_rfl); (case hf => kernel_rfl); (case hr => kernel_rfl); (case hQ => exact fun _ _ _ h => h); (case hS => assumption); (try simp only [Act.put, List.setIfInBounds_toArray, List.set_cons_zero, List.set_cons_succ, Nat.reduceAdd])))
              change wpAnyH _ _ _ _ _ _ _ _ _
              change At 15 _
              iterate 37 (first | (apply tkA; (case hi => (simp only [List.getElem?_toArray, List.getElem?_cons_zero, List.getElem?_cons_succ]; rfl)); (case hw => rfl); (case hy => (intro w' hSw; have q1 := r32 w' hSw; have q2 := r33 w' hSw; have q3 := r34 w' hSw; (try simp only [S] at hSw); go_simp; (try with_reducible rfl))); (case hs => kernel_rfl); (case hf => kernel_rfl); (case hr => kernel_rfl); (case hQ => exact fun _ _ _ h => h); (case hS => assumption); (try simp only [Act.put, List.setIfInBounds_toArray, List.set_cons_zero, List.set_cons_succ, Nat.reduceAdd])) | (apply skA; (case hi => (simp only [List.getElem?_toArray, List.getElem?_cons_zero, List.getElem?_cons_succ]; rfl)); (case hw => rfl); (case hs => kernel_rfl); (case hf => kernel_rfl); (case hr => kernel_rfl); (case hQ => exact fun _ _ _ h => h); (case hS => assumption); (try simp only [Act.put, List.setIfInBounds_toArray, List.set_cons_zero, List.set_cons_succ, Nat.reduceAdd])))
              change wpAnyH _ _ _ _ _ _ _ _ _
              refine wpAnyH_done (by kernel_rfl) ?_ _
              go_wp2_with fail
              go_meet
              exact ⟨vbool (by rw [hres]; rfl), hS1⟩
            · have hres : stepOk l k x = false := by rw [hso]; cases ho : x.one; rfl; have := hone.out.1 ho; omega
              have f0 : ¬ (x.place < 2) := by omega
              have d0 : decide (x.place < 2) = false := decide_eq_false f0
              have f1 : 128 ≤ x.place := by omega
              have d1 : decide (128 ≤ x.place) = true := decide_eq_true f1
              clear hso
              let S : World → Prop := fun w' => Below Y.heap.size Y w'
              have hS0 : S Y.drew := (Below.refl _ _).drew
              have r32 := fun w' (h : S w') => ((show Below Y.heap.size Y w' from h).cell (p := ⟨wr.heap.size, 32, none⟩) l4).trans c32
              have r33 := fun w' (h : S w') => ((show Below Y.heap.size Y w' from h).cell (p := ⟨wr.heap.size, 33, none⟩) l4).trans c33
              have r34 := fun w' (h : S w') => ((show Below Y.heap.size Y w' from h).cell (p := ⟨wr.heap.size, 34, none⟩) l4).trans c34
              have qk := fun w' (h : S w') => bRange (show Below Y.heap.size Y w' from h) l4 rk
              have qy := fun w' (h : S w') => bRange (show Below Y.heap.size Y w' from h) hbY' qy0
              clear c32 c33 c34 rk qy0
              refine wp_region_held (S := S) (by kernel_rfl) ?_
              change wpAnyH _ _ _ _ S _ _ _ Y.drew
              change At 0 _
              iterate 3 (first | (apply tkA; (case hi => (simp only [List.getElem?_toArray, List.getElem?_cons_zero, List.getElem?_cons_succ]; rfl)); (case hw => rfl); (case hy => (intro w' hSw; (try simp only [S] at hSw); go_simp; (try with_reducible rfl))); (case hs => kernel_rfl); (case hf => kernel_rfl); (case hr => kernel_rfl); (case hQ => exact fun _ _ _ h => h); (case hS => assumption); (try simp only [Act.put, List.setIfInBounds_toArray, List.set_cons_zero, List.set_cons_succ, Nat.reduceAdd])) | (apply skA; (case hi => (simp only [List.getElem?_toArray, List.getElem?_cons_zero, List.getElem?_cons_succ]; rfl)); (case hw => rfl); (case hs => kernel_rfl); (case hf => kernel_rfl); (case hr => kernel_rfl); (case hQ => exact fun _ _ _ h => h); (case hS => assumption); (try simp only [Act.put, List.setIfInBounds_toArray, List.set_cons_zero, List.set_cons_succ, Nat.reduceAdd])))
              change wpAnyH _ _ _ _ _ _ _ _ _
              change At 3 _
              iterate 5 (first | (apply tkA; (case hi => (simp only [List.getElem?_toArray, List.getElem?_cons_zero, List.getElem?_cons_succ]; rfl)); (case hw => rfl); (case hy => (intro w' hSw; (try simp only [S] at hSw); go_simp; (try with_reducible rfl))); (case hs => kernel_rfl); (case hf => kernel_rfl); (case hr => kernel_rfl); (case hQ => exact fun _ _ _ h => h); (case hS => assumption); (try simp only [Act.put, List.setIfInBounds_toArray, List.set_cons_zero, List.set_cons_succ, Nat.reduceAdd])) | (apply skA; (case hi => (simp only [List.getElem?_toArray, List.getElem?_cons_zero, List.getElem?_cons_succ]; rfl)); (case hw => rfl); (case hs => kernel_rfl); (case hf => kernel_rfl); (case hr => kernel_rfl); (case hQ => exact fun _ _ _ h => h); (case hS => assumption); (try simp only [Act.put, List.setIfInBounds_toArray, List.set_cons_zero, List.set_cons_succ, Nat.reduceAdd])))
              change wpAnyH _ _ _ _ _ _ _ _ _
              refine wpAnyH_take (i := 8) (oi := ?oi_14) (v := ?v_14) ?ho_14 ?h1_14 ?h2_14 ?h3_14 ?hq_14 (Or.inl ⟨?hw_14, ?hy_14⟩) ?hs_14 ?rest_14; (case h2_14 => kernel_rfl); (case h3_14 => kernel_rfl); (case ho_14 => (simp only [List.getElem?_toArray, List.getElem?_cons_zero, List.getElem?_cons_succ]; rfl)); (case h1_14 => kernel_rfl); (case hq_14 => exact fun _ _ _ h => h); (case hw_14 => rfl); (case hy_14 => (intro w' hSw; refine exec_load_row (x := .tmp 27) ?_ ?_ (qy w' hSw) Try.underlying71 ?_ iY <;> rfl)); (case hs_14 => assumption); (try simp only [Act.put, List.setIfInBounds_toArray, List.set_cons_zero, List.set_cons_succ])
              refine wpAnyH_take (i := 9) (oi := ?oi_3) (v := ?v_3) ?ho_3 ?h1_3 ?h2_3 ?h3_3 ?hq_3 (Or.inl ⟨?hw_3, ?hy_3⟩) ?hs_3 ?rest_3; (case h2_3 => kernel_rfl); (case h3_3 => kernel_rfl); (case ho_3 => (simp only [List.getElem?_toArray, List.getElem?_cons_zero, List.getElem?_cons_succ]; rfl)); (case h1_3 => kernel_rfl); (case hq_3 => exact fun _ _ _ h => h); (case hw_3 => rfl); (case hy_3 => (intro w' hSw; (try simp only [S] at hSw); go_simp; (try with_reducible rfl))); (case hs_3 => assumption); (try simp only [Act.put, List.setIfInBounds_toArray, List.set_cons_zero, List.set_cons_succ])
              refine wpAnyH_take (i := 10) (oi := ?oi_15) (v := ?v_15) ?ho_15 ?h1_15 ?h2_15 ?h3_15 ?hq_15 (Or.inl ⟨?hw_15, ?hy_15⟩) ?hs_15 ?rest_15; (case h2_15 => kernel_rfl); (case h3_15 => kernel_rfl); (case ho_15 => (simp only [List.getElem?_toArray, List.getElem?_cons_zero, List.getElem?_cons_succ]; rfl)); (case h1_15 => kernel_rfl); (case hq_15 => exact fun _ _ _ h => h); (case hw_15 => rfl); (case hy_15 => (intro w' hSw; refine exec_load_row (x := .tmp 29) ?_ ?_ (qk w' hSw) Try.underlying71 ?_ iD <;> rfl)); (case hs_15 => assumption); (try simp only [Act.put, List.setIfInBounds_toArray, List.set_cons_zero, List.set_cons_succ])
              refine wpAnyH_ready (rs := [11]) (by kernel_rfl) (by simp) (AllReadyH.cons (o := ?oo11_30) ?hoo11_30 (fun K hK => ?steponly30) AllReadyH.nil); (case hoo11_30 => (simp only [List.getElem?_toArray, List.getElem?_cons_zero, List.getElem?_cons_succ]; rfl))
              go_simp
              refine Calls.mono (hless _) ?_
              rintro e w31 ⟨rfl, hb31⟩
              have hS1 : S w31 := hS0.trans (hb31.mono (Nat.le_refl _))
              refine hK.out _ _ hS1 (fun _ => ?_)
              clear hK K
              (try simp only [Act.put, List.setIfInBounds_toArray, List.set_cons_zero, List.set_cons_succ])
              change At 12 _
              iterate 3 (first | (apply tkA; (case hi => (simp only [List.getElem?_toArray, List.getElem?_cons_zero, List.getElem?_cons_succ]; rfl)); (case hw => rfl); (case hy => (intro w' hSw; (try simp only [S] at hSw); go_simp; (try with_reducible rfl))); (case hs => kernel_rfl); (case hf => kernel_rfl); (case hr => kernel_rfl); (case hQ => exact fun _ _ _ h => h); (case hS => assumption); (try simp only [Act.put, List.setIfInBounds_toArray, List.set_cons_zero, List.set_cons_succ, Nat.reduceAdd])) | (apply skA; (case hi => (simp only [List.getElem?_toArray, List.getElem?_cons_zero, List.getElem?_cons_succ]; rfl)); (case hw => rfl); (case hs => kernel_rfl); (case hf => kernel_rfl); (case hr => kernel_rfl); (case hQ => exact fun _ _ _ h => h); (case hS => assumption); (try simp only [Act.put, List.setIfInBounds_toArray, List.set_cons_zero, List.set_cons_succ, Nat.reduceAdd])))
              change wpAnyH _ _ _ _ _ _ _ _ _
              change At 15 _
              iterate 37 (first | (apply tkA; (case hi => (simp only [List.getElem?_toArray, List.getElem?_cons_zero, List.getElem?_cons_succ]; rfl)); (case hw => rfl); (case hy => (intro w' hSw; have q1 := r32 w' hSw; have q2 := r33 w' hSw; have q3 := r34 w' hSw; (try simp only [S] at hSw); go_simp; (try with_reducible rfl))); (case hs => kernel_rfl); (case hf => kernel_rfl); (case hr => kernel_rfl); (case hQ => exact fun _ _ _ h => h); (case hS => assumption); (try simp only [Act.put, List.setIfInBounds_toArray, List.set_cons_zero, List.set_cons_succ, Nat.reduceAdd])) | (apply skA; (case hi => (simp only [List.getElem?_toArray, List.getElem?_cons_zero, List.getElem?_cons_succ]; rfl)); (case hw => rfl); (case hs => kernel_rfl); (case hf => kernel_rfl); (case hr => kernel_rfl); (case hQ => exact fun _ _ _ h => h); (case hS => assumption); (try simp only [Act.put, List.setIfInBounds_toArray, List.set_cons_zero, List.set_cons_succ, Nat.reduceAdd])))
              change wpAnyH _ _ _ _ _ _ _ _ _
              refine wpAnyH_done (by kernel_rfl) ?_ _
              go_wp2_with fail
              go_meet
              exact ⟨vbool (by rw [hres]; rfl), hS1⟩
            · have hres : stepOk l k x = false := by rw [hso]; cases ho : x.one; rfl; have := hone.out.1 ho; omega
              have f0 : ¬ (x.place < 2) := by omega
              have d0 : decide (x.place < 2) = false := decide_eq_false f0
              have f1 : ¬ (128 ≤ x.place) := by omega
              have d1 : decide (128 ≤ x.place) = false := decide_eq_false f1
              have f2 : x.blocks < 1 := by omega
              have d2 : decide (x.blocks < 1) = true := decide_eq_true f2
              clear hso
              let S : World → Prop := fun w' => Below Y.heap.size Y w'
              have hS0 : S Y.drew := (Below.refl _ _).drew
              have r32 := fun w' (h : S w') => ((show Below Y.heap.size Y w' from h).cell (p := ⟨wr.heap.size, 32, none⟩) l4).trans c32
              have r33 := fun w' (h : S w') => ((show Below Y.heap.size Y w' from h).cell (p := ⟨wr.heap.size, 33, none⟩) l4).trans c33
              have r34 := fun w' (h : S w') => ((show Below Y.heap.size Y w' from h).cell (p := ⟨wr.heap.size, 34, none⟩) l4).trans c34
              have qk := fun w' (h : S w') => bRange (show Below Y.heap.size Y w' from h) l4 rk
              have qy := fun w' (h : S w') => bRange (show Below Y.heap.size Y w' from h) hbY' qy0
              clear c32 c33 c34 rk qy0
              refine wp_region_held (S := S) (by kernel_rfl) ?_
              change wpAnyH _ _ _ _ S _ _ _ Y.drew
              change At 0 _
              iterate 3 (first | (apply tkA; (case hi => (simp only [List.getElem?_toArray, List.getElem?_cons_zero, List.getElem?_cons_succ]; rfl)); (case hw => rfl); (case hy => (intro w' hSw; (try simp only [S] at hSw); go_simp; (try with_reducible rfl))); (case hs => kernel_rfl); (case hf => kernel_rfl); (case hr => kernel_rfl); (case hQ => exact fun _ _ _ h => h); (case hS => assumption); (try simp only [Act.put, List.setIfInBounds_toArray, List.set_cons_zero, List.set_cons_succ, Nat.reduceAdd])) | (apply skA; (case hi => (simp only [List.getElem?_toArray, List.getElem?_cons_zero, List.getElem?_cons_succ]; rfl)); (case hw => rfl); (case hs => kernel_rfl); (case hf => kernel_rfl); (case hr => kernel_rfl); (case hQ => exact fun _ _ _ h => h); (case hS => assumption); (try simp only [Act.put, List.setIfInBounds_toArray, List.set_cons_zero, List.set_cons_succ, Nat.reduceAdd])))
              change wpAnyH _ _ _ _ _ _ _ _ _
              change At 3 _
              iterate 5 (first | (apply tkA; (case hi => (simp only [List.getElem?_toArray, List.getElem?_cons_zero, List.getElem?_cons_succ]; rfl)); (case hw => rfl); (case hy => (intro w' hSw; (try simp only [S] at hSw); go_simp; (try with_reducible rfl))); (case hs => kernel_rfl); (case hf => kernel_rfl); (case hr => kernel_rfl); (case hQ => exact fun _ _ _ h => h); (case hS => assumption); (try simp only [Act.put, List.setIfInBounds_toArray, List.set_cons_zero, List.set_cons_succ, Nat.reduceAdd])) | (apply skA; (case hi => (simp only [List.getElem?_toArray, List.getElem?_cons_zero, List.getElem?_cons_succ]; rfl)); (case hw => rfl); (case hs => kernel_rfl); (case hf => kernel_rfl); (case hr => kernel_rfl); (case hQ => exact fun _ _ _ h => h); (case hS => assumption); (try simp only [Act.put, List.setIfInBounds_toArray, List.set_cons_zero, List.set_cons_succ, Nat.reduceAdd])))
              change wpAnyH _ _ _ _ _ _ _ _ _
              refine wpAnyH_take (i := 8) (oi := ?oi_16) (v := ?v_16) ?ho_16 ?h1_16 ?h2_16 ?h3_16 ?hq_16 (Or.inl ⟨?hw_16, ?hy_16⟩) ?hs_16 ?rest_16; (case h2_16 => kernel_rfl); (case h3_16 => kernel_rfl); (case ho_16 => (simp only [List.getElem?_toArray, List.getElem?_cons_zero, List.getElem?_cons_succ]; rfl)); (case h1_16 => kernel_rfl); (case hq_16 => exact fun _ _ _ h => h); (case hw_16 => rfl); (case hy_16 => (intro w' hSw; refine exec_load_row (x := .tmp 27) ?_ ?_ (qy w' hSw) Try.underlying71 ?_ iY <;> rfl)); (case hs_16 => assumption); (try simp only [Act.put, List.setIfInBounds_toArray, List.set_cons_zero, List.set_cons_succ])
              refine wpAnyH_take (i := 9) (oi := ?oi_4) (v := ?v_4) ?ho_4 ?h1_4 ?h2_4 ?h3_4 ?hq_4 (Or.inl ⟨?hw_4, ?hy_4⟩) ?hs_4 ?rest_4; (case h2_4 => kernel_rfl); (case h3_4 => kernel_rfl); (case ho_4 => (simp only [List.getElem?_toArray, List.getElem?_cons_zero, List.getElem?_cons_succ]; rfl)); (case h1_4 => kernel_rfl); (case hq_4 => exact fun _ _ _ h => h); (case hw_4 => rfl); (case hy_4 => (intro w' hSw; (try simp only [S] at hSw); go_simp; (try with_reducible rfl))); (case hs_4 => assumption); (try simp only [Act.put, List.setIfInBounds_toArray, List.set_cons_zero, List.set_cons_succ])
              refine wpAnyH_take (i := 10) (oi := ?oi_17) (v := ?v_17) ?ho_17 ?h1_17 ?h2_17 ?h3_17 ?hq_17 (Or.inl ⟨?hw_17, ?hy_17⟩) ?hs_17 ?rest_17; (case h2_17 => kernel_rfl); (case h3_17 => kernel_rfl); (case ho_17 => (simp only [List.getElem?_toArray, List.getElem?_cons_zero, List.getElem?_cons_succ]; rfl)); (case h1_17 => kernel_rfl); (case hq_17 => exact fun _ _ _ h => h); (case hw_17 => rfl); (case hy_17 => (intro w' hSw; refine exec_load_row (x := .tmp 29) ?_ ?_ (qk w' hSw) Try.underlying71 ?_ iD <;> rfl)); (case hs_17 => assumption); (try simp only [Act.put, List.setIfInBounds_toArray, List.set_cons_zero, List.set_cons_succ])
              refine wpAnyH_ready (rs := [11]) (by kernel_rfl) (by simp) (AllReadyH.cons (o := ?oo11_31) ?hoo11_31 (fun K hK => ?steponly31) AllReadyH.nil); (case hoo11_31 => (simp only [List.getElem?_toArray, List.getElem?_cons_zero, List.getElem?_cons_succ]; rfl))
              go_simp
              refine Calls.mono (hless _) ?_
              rintro e w31 ⟨rfl, hb31⟩
              have hS1 : S w31 := hS0.trans (hb31.mono (Nat.le_refl _))
              refine hK.out _ _ hS1 (fun _ => ?_)
              clear hK K
              (try simp only [Act.put, List.setIfInBounds_toArray, List.set_cons_zero, List.set_cons_succ])
              change At 12 _
              iterate 3 (first | (apply tkA; (case hi => (simp only [List.getElem?_toArray, List.getElem?_cons_zero, List.getElem?_cons_succ]; rfl)); (case hw => rfl); (case hy => (intro w' hSw; (try simp only [S] at hSw); go_simp; (try with_reducible rfl))); (case hs => kernel_rfl); (case hf => kernel_rfl); (case hr => kernel_rfl); (case hQ => exact fun _ _ _ h => h); (case hS => assumption); (try simp only [Act.put, List.setIfInBounds_toArray, List.set_cons_zero, List.set_cons_succ, Nat.reduceAdd])) | (apply skA; (case hi => (simp only [List.getElem?_toArray, List.getElem?_cons_zero, List.getElem?_cons_succ]; rfl)); (case hw => rfl); (case hs => kernel_rfl); (case hf => kernel_rfl); (case hr => kernel_rfl); (case hQ => exact fun _ _ _ h => h); (case hS => assumption); (try simp only [Act.put, List.setIfInBounds_toArray, List.set_cons_zero, List.set_cons_succ, Nat.reduceAdd])))
              change wpAnyH _ _ _ _ _ _ _ _ _
              change At 15 _
              iterate 37 (first | (apply tkA; (case hi => (simp only [List.getElem?_toArray, List.getElem?_cons_zero, List.getElem?_cons_succ]; rfl)); (case hw => rfl); (case hy => (intro w' hSw; have q1 := r32 w' hSw; have q2 := r33 w' hSw; have q3 := r34 w' hSw; (try simp only [S] at hSw); go_simp; (try with_reducible rfl))); (case hs => kernel_rfl); (case hf => kernel_rfl); (case hr => kernel_rfl); (case hQ => exact fun _ _ _ h => h); (case hS => assumption); (try simp only [Act.put, List.setIfInBounds_toArray, List.set_cons_zero, List.set_cons_succ, Nat.reduceAdd])) | (apply skA; (case hi => (simp only [List.getElem?_toArray, List.getElem?_cons_zero, List.getElem?_cons_succ]; rfl)); (case hw => rfl); (case hs => kernel_rfl); (case hf => kernel_rfl); (case hr => kernel_rfl); (case hQ => exact fun _ _ _ h => h); (case hS => assumption); (try simp only [Act.put, List.setIfInBounds_toArray, List.set_cons_zero, List.set_cons_succ, Nat.reduceAdd])))
              change wpAnyH _ _ _ _ _ _ _ _ _
              refine wpAnyH_done (by kernel_rfl) ?_ _
              go_wp2_with fail
              go_meet
              exact ⟨vbool (by rw [hres]; rfl), hS1⟩
            · have hres : stepOk l k x = false := by rw [hso]; cases ho : x.one; rfl; have := hone.out.1 ho; omega
              have f0 : ¬ (x.place < 2) := by omega
              have d0 : decide (x.place < 2) = false := decide_eq_false f0
              have f1 : ¬ (128 ≤ x.place) := by omega
              have d1 : decide (128 ≤ x.place) = false := decide_eq_false f1
              have f2 : ¬ (x.blocks < 1) := by omega
              have d2 : decide (x.blocks < 1) = false := decide_eq_false f2
              have f3 : 8 < x.blocks := by omega
              have d3 : decide (8 < x.blocks) = true := decide_eq_true f3
              clear hso
              let S : World → Prop := fun w' => Below Y.heap.size Y w'
              have hS0 : S Y.drew := (Below.refl _ _).drew
              have r32 := fun w' (h : S w') => ((show Below Y.heap.size Y w' from h).cell (p := ⟨wr.heap.size, 32, none⟩) l4).trans c32
              have r33 := fun w' (h : S w') => ((show Below Y.heap.size Y w' from h).cell (p := ⟨wr.heap.size, 33, none⟩) l4).trans c33
              have r34 := fun w' (h : S w') => ((show Below Y.heap.size Y w' from h).cell (p := ⟨wr.heap.size, 34, none⟩) l4).trans c34
              have qk := fun w' (h : S w') => bRange (show Below Y.heap.size Y w' from h) l4 rk
              have qy := fun w' (h : S w') => bRange (show Below Y.heap.size Y w' from h) hbY' qy0
              clear c32 c33 c34 rk qy0
              refine wp_region_held (S := S) (by kernel_rfl) ?_
              change wpAnyH _ _ _ _ S _ _ _ Y.drew
              change At 0 _
              iterate 3 (first | (apply tkA; (case hi => (simp only [List.getElem?_toArray, List.getElem?_cons_zero, List.getElem?_cons_succ]; rfl)); (case hw => rfl); (case hy => (intro w' hSw; (try simp only [S] at hSw); go_simp; (try with_reducible rfl))); (case hs => kernel_rfl); (case hf => kernel_rfl); (case hr => kernel_rfl); (case hQ => exact fun _ _ _ h => h); (case hS => assumption); (try simp only [Act.put, List.setIfInBounds_toArray, List.set_cons_zero, List.set_cons_succ, Nat.reduceAdd])) | (apply skA; (case hi => (simp only [List.getElem?_toArray, List.getElem?_cons_zero, List.getElem?_cons_succ]; rfl)); (case hw => rfl); (case hs => kernel_rfl); (case hf => kernel_rfl); (case hr => kernel_rfl); (case hQ => exact fun _ _ _ h => h); (case hS => assumption); (try simp only [Act.put, List.setIfInBounds_toArray, List.set_cons_zero, List.set_cons_succ, Nat.reduceAdd])))
              change wpAnyH _ _ _ _ _ _ _ _ _
              change At 3 _
              iterate 5 (first | (apply tkA; (case hi => (simp only [List.getElem?_toArray, List.getElem?_cons_zero, List.getElem?_cons_succ]; rfl)); (case hw => rfl); (case hy => (intro w' hSw; (try simp only [S] at hSw); go_simp; (try with_reducible rfl))); (case hs => kernel_rfl); (case hf => kernel_rfl); (case hr => kernel_rfl); (case hQ => exact fun _ _ _ h => h); (case hS => assumption); (try simp only [Act.put, List.setIfInBounds_toArray, List.set_cons_zero, List.set_cons_succ, Nat.reduceAdd])) | (apply skA; (case hi => (simp only [List.getElem?_toArray, List.getElem?_cons_zero, List.getElem?_cons_succ]; rfl)); (case hw => rfl); (case hs => kernel_rfl); (case hf => kernel_rfl); (case hr => kernel_rfl); (case hQ => exact fun _ _ _ h => h); (case hS => assumption); (try simp only [Act.put, List.setIfInBounds_toArray, List.set_cons_zero, List.set_cons_succ, Nat.reduceAdd])))
              change wpAnyH _ _ _ _ _ _ _ _ _
              refine wpAnyH_take (i := 8) (oi := ?oi_18) (v := ?v_18) ?ho_18 ?h1_18 ?h2_18 ?h3_18 ?hq_18 (Or.inl ⟨?hw_18, ?hy_18⟩) ?hs_18 ?rest_18; (case h2_18 => kernel_rfl); (case h3_18 => kernel_rfl); (case ho_18 => (simp only [List.getElem?_toArray, List.getElem?_cons_zero, List.getElem?_cons_succ]; rfl)); (case h1_18 => kernel_rfl); (case hq_18 => exact fun _ _ _ h => h); (case hw_18 => rfl); (case hy_18 => (intro w' hSw; refine exec_load_row (x := .tmp 27) ?_ ?_ (qy w' hSw) Try.underlying71 ?_ iY <;> rfl)); (case hs_18 => assumption); (try simp only [Act.put, List.setIfInBounds_toArray, List.set_cons_zero, List.set_cons_succ])
              refine wpAnyH_take (i := 9) (oi := ?oi_5) (v := ?v_5) ?ho_5 ?h1_5 ?h2_5 ?h3_5 ?hq_5 (Or.inl ⟨?hw_5, ?hy_5⟩) ?hs_5 ?rest_5; (case h2_5 => kernel_rfl); (case h3_5 => kernel_rfl); (case ho_5 => (simp only [List.getElem?_toArray, List.getElem?_cons_zero, List.getElem?_cons_succ]; rfl)); (case h1_5 => kernel_rfl); (case hq_5 => exact fun _ _ _ h => h); (case hw_5 => rfl); (case hy_5 => (intro w' hSw; (try simp only [S] at hSw); go_simp; (try with_reducible rfl))); (case hs_5 => assumption); (try simp only [Act.put, List.setIfInBounds_toArray, List.set_cons_zero, List.set_cons_succ])
              refine wpAnyH_take (i := 10) (oi := ?oi_19) (v := ?v_19) ?ho_19 ?h1_19 ?h2_19 ?h3_19 ?hq_19 (Or.inl ⟨?hw_19, ?hy_19⟩) ?hs_19 ?rest_19; (case h2_19 => kernel_rfl); (case h3_19 => kernel_rfl); (case ho_19 => (simp only [List.getElem?_toArray, List.getElem?_cons_zero, List.getElem?_cons_succ]; rfl)); (case h1_19 => kernel_rfl); (case hq_19 => exact fun _ _ _ h => h); (case hw_19 => rfl); (case hy_19 => (intro w' hSw; refine exec_load_row (x := .tmp 29) ?_ ?_ (qk w' hSw) Try.underlying71 ?_ iD <;> rfl)); (case hs_19 => assumption); (try simp only [Act.put, List.setIfInBounds_toArray, List.set_cons_zero, List.set_cons_succ])
              refine wpAnyH_ready (rs := [11]) (by kernel_rfl) (by simp) (AllReadyH.cons (o := ?oo11_32) ?hoo11_32 (fun K hK => ?steponly32) AllReadyH.nil); (case hoo11_32 => (simp only [List.getElem?_toArray, List.getElem?_cons_zero, List.getElem?_cons_succ]; rfl))
              go_simp
              refine Calls.mono (hless _) ?_
              rintro e w31 ⟨rfl, hb31⟩
              have hS1 : S w31 := hS0.trans (hb31.mono (Nat.le_refl _))
              refine hK.out _ _ hS1 (fun _ => ?_)
              clear hK K
              (try simp only [Act.put, List.setIfInBounds_toArray, List.set_cons_zero, List.set_cons_succ])
              change At 12 _
              iterate 3 (first | (apply tkA; (case hi => (simp only [List.getElem?_toArray, List.getElem?_cons_zero, List.getElem?_cons_succ]; rfl)); (case hw => rfl); (case hy => (intro w' hSw; (try simp only [S] at hSw); go_simp; (try with_reducible rfl))); (case hs => kernel_rfl); (case hf => kernel_rfl); (case hr => kernel_rfl); (case hQ => exact fun _ _ _ h => h); (case hS => assumption); (try simp only [Act.put, List.setIfInBounds_toArray, List.set_cons_zero, List.set_cons_succ, Nat.reduceAdd])) | (apply skA; (case hi => (simp only [List.getElem?_toArray, List.getElem?_cons_zero, List.getElem?_cons_succ]; rfl)); (case hw => rfl); (case hs => kernel_rfl); (case hf => kernel_rfl); (case hr => kernel_rfl); (case hQ => exact fun _ _ _ h => h); (case hS => assumption); (try simp only [Act.put, List.setIfInBounds_toArray, List.set_cons_zero, List.set_cons_succ, Nat.reduceAdd])))
              change wpAnyH _ _ _ _ _ _ _ _ _
              change At 15 _
              iterate 37 (first | (apply tkA; (case hi => (simp only [List.getElem?_toArray, List.getElem?_cons_zero, List.getElem?_cons_succ]; rfl)); (case hw => rfl); (case hy => (intro w' hSw; have q1 := r32 w' hSw; have q2 := r33 w' hSw; have q3 := r34 w' hSw; (try simp only [S] at hSw); go_simp; (try with_reducible rfl))); (case hs => kernel_rfl); (case hf => kernel_rfl); (case hr => kernel_rfl); (case hQ => exact fun _ _ _ h => h); (case hS => assumption); (try simp only [Act.put, List.setIfInBounds_toArray, List.set_cons_zero, List.set_cons_succ, Nat.reduceAdd])) | (apply skA; (case hi => (simp only [List.getElem?_toArray, List.getElem?_cons_zero, List.getElem?_cons_succ]; rfl)); (case hw => rfl); (case hs => kernel_rfl); (case hf => kernel_rfl); (case hr => kernel_rfl); (case hQ => exact fun _ _ _ h => h); (case hS => assumption); (try simp only [Act.put, List.setIfInBounds_toArray, List.set_cons_zero, List.set_cons_succ, Nat.reduceAdd])))
              change wpAnyH _ _ _ _ _ _ _ _ _
              refine wpAnyH_done (by kernel_rfl) ?_ _
              go_wp2_with fail
              go_meet
              exact ⟨vbool (by rw [hres]; rfl), hS1⟩
            · have hres : stepOk l k x = false := by rw [hso]; cases ho : x.one; rfl; have := hone.out.1 ho; omega
              have f0 : ¬ (x.place < 2) := by omega
              have d0 : decide (x.place < 2) = false := decide_eq_false f0
              have f1 : ¬ (128 ≤ x.place) := by omega
              have d1 : decide (128 ≤ x.place) = false := decide_eq_false f1
              have f2 : ¬ (x.blocks < 1) := by omega
              have d2 : decide (x.blocks < 1) = false := decide_eq_false f2
              have f3 : ¬ (8 < x.blocks) := by omega
              have d3 : decide (8 < x.blocks) = false := decide_eq_false f3
              have f4 : 128 - x.place < x.blocks := by omega
              have d4 : decide (128 - x.place < x.blocks) = true := decide_eq_true f4
              have w59 : IntKind.i64.wrap (128 - x.place) = 128 - x.place := wrap_small _ (by omega) (by omega)
              clear hso
              let S : World → Prop := fun w' => Below Y.heap.size Y w'
              have hS0 : S Y.drew := (Below.refl _ _).drew
              have r32 := fun w' (h : S w') => ((show Below Y.heap.size Y w' from h).cell (p := ⟨wr.heap.size, 32, none⟩) l4).trans c32
              have r33 := fun w' (h : S w') => ((show Below Y.heap.size Y w' from h).cell (p := ⟨wr.heap.size, 33, none⟩) l4).trans c33
              have r34 := fun w' (h : S w') => ((show Below Y.heap.size Y w' from h).cell (p := ⟨wr.heap.size, 34, none⟩) l4).trans c34
              have qk := fun w' (h : S w') => bRange (show Below Y.heap.size Y w' from h) l4 rk
              have qy := fun w' (h : S w') => bRange (show Below Y.heap.size Y w' from h) hbY' qy0
              clear c32 c33 c34 rk qy0
              refine wp_region_held (S := S) (by kernel_rfl) ?_
              change wpAnyH _ _ _ _ S _ _ _ Y.drew
              change At 0 _
              iterate 3 (first | (apply tkA; (case hi => (simp only [List.getElem?_toArray, List.getElem?_cons_zero, List.getElem?_cons_succ]; rfl)); (case hw => rfl); (case hy => (intro w' hSw; (try simp only [S] at hSw); go_simp; (try with_reducible rfl))); (case hs => kernel_rfl); (case hf => kernel_rfl); (case hr => kernel_rfl); (case hQ => exact fun _ _ _ h => h); (case hS => assumption); (try simp only [Act.put, List.setIfInBounds_toArray, List.set_cons_zero, List.set_cons_succ, Nat.reduceAdd])) | (apply skA; (case hi => (simp only [List.getElem?_toArray, List.getElem?_cons_zero, List.getElem?_cons_succ]; rfl)); (case hw => rfl); (case hs => kernel_rfl); (case hf => kernel_rfl); (case hr => kernel_rfl); (case hQ => exact fun _ _ _ h => h); (case hS => assumption); (try simp only [Act.put, List.setIfInBounds_toArray, List.set_cons_zero, List.set_cons_succ, Nat.reduceAdd])))
              change wpAnyH _ _ _ _ _ _ _ _ _
              change At 3 _
              iterate 5 (first | (apply tkA; (case hi => (simp only [List.getElem?_toArray, List.getElem?_cons_zero, List.getElem?_cons_succ]; rfl)); (case hw => rfl); (case hy => (intro w' hSw; (try simp only [S] at hSw); go_simp; (try with_reducible rfl))); (case hs => kernel_rfl); (case hf => kernel_rfl); (case hr => kernel_rfl); (case hQ => exact fun _ _ _ h => h); (case hS => assumption); (try simp only [Act.put, List.setIfInBounds_toArray, List.set_cons_zero, List.set_cons_succ, Nat.reduceAdd])) | (apply skA; (case hi => (simp only [List.getElem?_toArray, List.getElem?_cons_zero, List.getElem?_cons_succ]; rfl)); (case hw => rfl); (case hs => kernel_rfl); (case hf => kernel_rfl); (case hr => kernel_rfl); (case hQ => exact fun _ _ _ h => h); (case hS => assumption); (try simp only [Act.put, List.setIfInBounds_toArray, List.set_cons_zero, List.set_cons_succ, Nat.reduceAdd])))
              change wpAnyH _ _ _ _ _ _ _ _ _
              refine wpAnyH_take (i := 8) (oi := ?oi_20) (v := ?v_20) ?ho_20 ?h1_20 ?h2_20 ?h3_20 ?hq_20 (Or.inl ⟨?hw_20, ?hy_20⟩) ?hs_20 ?rest_20; (case h2_20 => kernel_rfl); (case h3_20 => kernel_rfl); (case ho_20 => (simp only [List.getElem?_toArray, List.getElem?_cons_zero, List.getElem?_cons_succ]; rfl)); (case h1_20 => kernel_rfl); (case hq_20 => exact fun _ _ _ h => h); (case hw_20 => rfl); (case hy_20 => (intro w' hSw; refine exec_load_row (x := .tmp 27) ?_ ?_ (qy w' hSw) Try.underlying71 ?_ iY <;> rfl)); (case hs_20 => assumption); (try simp only [Act.put, List.setIfInBounds_toArray, List.set_cons_zero, List.set_cons_succ])
              refine wpAnyH_take (i := 9) (oi := ?oi_6) (v := ?v_6) ?ho_6 ?h1_6 ?h2_6 ?h3_6 ?hq_6 (Or.inl ⟨?hw_6, ?hy_6⟩) ?hs_6 ?rest_6; (case h2_6 => kernel_rfl); (case h3_6 => kernel_rfl); (case ho_6 => (simp only [List.getElem?_toArray, List.getElem?_cons_zero, List.getElem?_cons_succ]; rfl)); (case h1_6 => kernel_rfl); (case hq_6 => exact fun _ _ _ h => h); (case hw_6 => rfl); (case hy_6 => (intro w' hSw; (try simp only [S] at hSw); go_simp; (try with_reducible rfl))); (case hs_6 => assumption); (try simp only [Act.put, List.setIfInBounds_toArray, List.set_cons_zero, List.set_cons_succ])
              refine wpAnyH_take (i := 10) (oi := ?oi_21) (v := ?v_21) ?ho_21 ?h1_21 ?h2_21 ?h3_21 ?hq_21 (Or.inl ⟨?hw_21, ?hy_21⟩) ?hs_21 ?rest_21; (case h2_21 => kernel_rfl); (case h3_21 => kernel_rfl); (case ho_21 => (simp only [List.getElem?_toArray, List.getElem?_cons_zero, List.getElem?_cons_succ]; rfl)); (case h1_21 => kernel_rfl); (case hq_21 => exact fun _ _ _ h => h); (case hw_21 => rfl); (case hy_21 => (intro w' hSw; refine exec_load_row (x := .tmp 29) ?_ ?_ (qk w' hSw) Try.underlying71 ?_ iD <;> rfl)); (case hs_21 => assumption); (try simp only [Act.put, List.setIfInBounds_toArray, List.set_cons_zero, List.set_cons_succ])
              refine wpAnyH_ready (rs := [11]) (by kernel_rfl) (by simp) (AllReadyH.cons (o := ?oo11_33) ?hoo11_33 (fun K hK => ?steponly33) AllReadyH.nil); (case hoo11_33 => (simp only [List.getElem?_toArray, List.getElem?_cons_zero, List.getElem?_cons_succ]; rfl))
              go_simp
              refine Calls.mono (hless _) ?_
              rintro e w31 ⟨rfl, hb31⟩
              have hS1 : S w31 := hS0.trans (hb31.mono (Nat.le_refl _))
              refine hK.out _ _ hS1 (fun _ => ?_)
              clear hK K
              (try simp only [Act.put, List.setIfInBounds_toArray, List.set_cons_zero, List.set_cons_succ])
              change At 12 _
              iterate 3 (first | (apply tkA; (case hi => (simp only [List.getElem?_toArray, List.getElem?_cons_zero, List.getElem?_cons_succ]; rfl)); (case hw => rfl); (case hy => (intro w' hSw; (try simp only [S] at hSw); go_simp; (try with_reducible rfl))); (case hs => kernel_rfl); (case hf => kernel_rfl); (case hr => kernel_rfl); (case hQ => exact fun _ _ _ h => h); (case hS => assumption); (try simp only [Act.put, List.setIfInBounds_toArray, List.set_cons_zero, List.set_cons_succ, Nat.reduceAdd])) | (apply skA; (case hi => (simp only [List.getElem?_toArray, List.getElem?_cons_zero, List.getElem?_cons_succ]; rfl)); (case hw => rfl); (case hs => kernel_rfl); (case hf => kernel_rfl); (case hr => kernel_rfl); (case hQ => exact fun _ _ _ h => h); (case hS => assumption); (try simp only [Act.put, List.setIfInBounds_toArray, List.set_cons_zero, List.set_cons_succ, Nat.reduceAdd])))
              change wpAnyH _ _ _ _ _ _ _ _ _
              change At 15 _
              iterate 37 (first | (apply tkA; (case hi => (simp only [List.getElem?_toArray, List.getElem?_cons_zero, List.getElem?_cons_succ]; rfl)); (case hw => rfl); (case hy => (intro w' hSw; have q1 := r32 w' hSw; have q2 := r33 w' hSw; have q3 := r34 w' hSw; (try simp only [S] at hSw); go_simp; (try with_reducible rfl))); (case hs => kernel_rfl); (case hf => kernel_rfl); (case hr => kernel_rfl); (case hQ => exact fun _ _ _ h => h); (case hS => assumption); (try simp only [Act.put, List.setIfInBounds_toArray, List.set_cons_zero, List.set_cons_succ, Nat.reduceAdd])) | (apply skA; (case hi => (simp only [List.getElem?_toArray, List.getElem?_cons_zero, List.getElem?_cons_succ]; rfl)); (case hw => rfl); (case hs => kernel_rfl); (case hf => kernel_rfl); (case hr => kernel_rfl); (case hQ => exact fun _ _ _ h => h); (case hS => assumption); (try simp only [Act.put, List.setIfInBounds_toArray, List.set_cons_zero, List.set_cons_succ, Nat.reduceAdd])))
              change wpAnyH _ _ _ _ _ _ _ _ _
              refine wpAnyH_done (by kernel_rfl) ?_ _
              go_wp2_with fail
              go_meet
              exact ⟨vbool (by rw [hres]; rfl), hS1⟩
            · have hres : stepOk l k x = false := by rw [hso]; cases ho : x.one; rfl; have := hone.out.1 ho; omega
              have f0 : ¬ (x.place < 2) := by omega
              have d0 : decide (x.place < 2) = false := decide_eq_false f0
              have f1 : ¬ (128 ≤ x.place) := by omega
              have d1 : decide (128 ≤ x.place) = false := decide_eq_false f1
              have f2 : ¬ (x.blocks < 1) := by omega
              have d2 : decide (x.blocks < 1) = false := decide_eq_false f2
              have f3 : ¬ (8 < x.blocks) := by omega
              have d3 : decide (8 < x.blocks) = false := decide_eq_false f3
              have f4 : ¬ (128 - x.place < x.blocks) := by omega
              have d4 : decide (128 - x.place < x.blocks) = false := decide_eq_false f4
              have f5 : x.refs < 0 := by omega
              have d5 : decide (x.refs < 0) = true := decide_eq_true f5
              have w59 : IntKind.i64.wrap (128 - x.place) = 128 - x.place := wrap_small _ (by omega) (by omega)
              clear hso
              let S : World → Prop := fun w' => Below Y.heap.size Y w'
              have hS0 : S Y.drew := (Below.refl _ _).drew
              have r32 := fun w' (h : S w') => ((show Below Y.heap.size Y w' from h).cell (p := ⟨wr.heap.size, 32, none⟩) l4).trans c32
              have r33 := fun w' (h : S w') => ((show Below Y.heap.size Y w' from h).cell (p := ⟨wr.heap.size, 33, none⟩) l4).trans c33
              have r34 := fun w' (h : S w') => ((show Below Y.heap.size Y w' from h).cell (p := ⟨wr.heap.size, 34, none⟩) l4).trans c34
              have qk := fun w' (h : S w') => bRange (show Below Y.heap.size Y w' from h) l4 rk
              have qy := fun w' (h : S w') => bRange (show Below Y.heap.size Y w' from h) hbY' qy0
              clear c32 c33 c34 rk qy0
              refine wp_region_held (S := S) (by kernel_rfl) ?_
              change wpAnyH _ _ _ _ S _ _ _ Y.drew
              change At 0 _
              iterate 3 (first | (apply tkA; (case hi => (simp only [List.getElem?_toArray, List.getElem?_cons_zero, List.getElem?_cons_succ]; rfl)); (case hw => rfl); (case hy => (intro w' hSw; (try simp only [S] at hSw); go_simp; (try with_reducible rfl))); (case hs => kernel_rfl); (case hf => kernel_rfl); (case hr => kernel_rfl); (case hQ => exact fun _ _ _ h => h); (case hS => assumption); (try simp only [Act.put, List.setIfInBounds_toArray, List.set_cons_zero, List.set_cons_succ, Nat.reduceAdd])) | (apply skA; (case hi => (simp only [List.getElem?_toArray, List.getElem?_cons_zero, List.getElem?_cons_succ]; rfl)); (case hw => rfl); (case hs => kernel_rfl); (case hf => kernel_rfl); (case hr => kernel_rfl); (case hQ => exact fun _ _ _ h => h); (case hS => assumption); (try simp only [Act.put, List.setIfInBounds_toArray, List.set_cons_zero, List.set_cons_succ, Nat.reduceAdd])))
              change wpAnyH _ _ _ _ _ _ _ _ _
              change At 3 _
              iterate 5 (first | (apply tkA; (case hi => (simp only [List.getElem?_toArray, List.getElem?_cons_zero, List.getElem?_cons_succ]; rfl)); (case hw => rfl); (case hy => (intro w' hSw; (try simp only [S] at hSw); go_simp; (try with_reducible rfl))); (case hs => kernel_rfl); (case hf => kernel_rfl); (case hr => kernel_rfl); (case hQ => exact fun _ _ _ h => h); (case hS => assumption); (try simp only [Act.put, List.setIfInBounds_toArray, List.set_cons_zero, List.set_cons_succ, Nat.reduceAdd])) | (apply skA; (case hi => (simp only [List.getElem?_toArray, List.getElem?_cons_zero, List.getElem?_cons_succ]; rfl)); (case hw => rfl); (case hs => kernel_rfl); (case hf => kernel_rfl); (case hr => kernel_rfl); (case hQ => exact fun _ _ _ h => h); (case hS => assumption); (try simp only [Act.put, List.setIfInBounds_toArray, List.set_cons_zero, List.set_cons_succ, Nat.reduceAdd])))
              change wpAnyH _ _ _ _ _ _ _ _ _
              refine wpAnyH_take (i := 8) (oi := ?oi_22) (v := ?v_22) ?ho_22 ?h1_22 ?h2_22 ?h3_22 ?hq_22 (Or.inl ⟨?hw_22, ?hy_22⟩) ?hs_22 ?rest_22; (case h2_22 => kernel_rfl); (case h3_22 => kernel_rfl); (case ho_22 => (simp only [List.getElem?_toArray, List.getElem?_cons_zero, List.getElem?_cons_succ]; rfl)); (case h1_22 => kernel_rfl); (case hq_22 => exact fun _ _ _ h => h); (case hw_22 => rfl); (case hy_22 => (intro w' hSw; refine exec_load_row (x := .tmp 27) ?_ ?_ (qy w' hSw) Try.underlying71 ?_ iY <;> rfl)); (case hs_22 => assumption); (try simp only [Act.put, List.setIfInBounds_toArray, List.set_cons_zero, List.set_cons_succ])
              refine wpAnyH_take (i := 9) (oi := ?oi_7) (v := ?v_7) ?ho_7 ?h1_7 ?h2_7 ?h3_7 ?hq_7 (Or.inl ⟨?hw_7, ?hy_7⟩) ?hs_7 ?rest_7; (case h2_7 => kernel_rfl); (case h3_7 => kernel_rfl); (case ho_7 => (simp only [List.getElem?_toArray, List.getElem?_cons_zero, List.getElem?_cons_succ]; rfl)); (case h1_7 => kernel_rfl); (case hq_7 => exact fun _ _ _ h => h); (case hw_7 => rfl); (case hy_7 => (intro w' hSw; (try simp only [S] at hSw); go_simp; (try with_reducible rfl))); (case hs_7 => assumption); (try simp only [Act.put, List.setIfInBounds_toArray, List.set_cons_zero, List.set_cons_succ])
              refine wpAnyH_take (i := 10) (oi := ?oi_23) (v := ?v_23) ?ho_23 ?h1_23 ?h2_23 ?h3_23 ?hq_23 (Or.inl ⟨?hw_23, ?hy_23⟩) ?hs_23 ?rest_23; (case h2_23 => kernel_rfl); (case h3_23 => kernel_rfl); (case ho_23 => (simp only [List.getElem?_toArray, List.getElem?_cons_zero, List.getElem?_cons_succ]; rfl)); (case h1_23 => kernel_rfl); (case hq_23 => exact fun _ _ _ h => h); (case hw_23 => rfl); (case hy_23 => (intro w' hSw; refine exec_load_row (x := .tmp 29) ?_ ?_ (qk w' hSw) Try.underlying71 ?_ iD <;> rfl)); (case hs_23 => assumption); (try simp only [Act.put, List.setIfInBounds_toArray, List.set_cons_zero, List.set_cons_succ])
              refine wpAnyH_ready (rs := [11]) (by kernel_rfl) (by simp) (AllReadyH.cons (o := ?oo11_34) ?hoo11_34 (fun K hK => ?steponly34) AllReadyH.nil); (case hoo11_34 => (simp only [List.getElem?_toArray, List.getElem?_cons_zero, List.getElem?_cons_succ]; rfl))
              go_simp
              refine Calls.mono (hless _) ?_
              rintro e w31 ⟨rfl, hb31⟩
              have hS1 : S w31 := hS0.trans (hb31.mono (Nat.le_refl _))
              refine hK.out _ _ hS1 (fun _ => ?_)
              clear hK K
              (try simp only [Act.put, List.setIfInBounds_toArray, List.set_cons_zero, List.set_cons_succ])
              change At 12 _
              iterate 3 (first | (apply tkA; (case hi => (simp only [List.getElem?_toArray, List.getElem?_cons_zero, List.getElem?_cons_succ]; rfl)); (case hw => rfl); (case hy => (intro w' hSw; (try simp only [S] at hSw); go_simp; (try with_reducible rfl))); (case hs => kernel_rfl); (case hf => kernel_rfl); (case hr => kernel_rfl); (case hQ => exact fun _ _ _ h => h); (case hS => assumption); (try simp only [Act.put, List.setIfInBounds_toArray, List.set_cons_zero, List.set_cons_succ, Nat.reduceAdd])) | (apply skA; (case hi => (simp only [List.getElem?_toArray, List.getElem?_cons_zero, List.getElem?_cons_succ]; rfl)); (case hw => rfl); (case hs => kernel_rfl); (case hf => kernel_rfl); (case hr => kernel_rfl); (case hQ => exact fun _ _ _ h => h); (case hS => assumption); (try simp only [Act.put, List.setIfInBounds_toArray, List.set_cons_zero, List.set_cons_succ, Nat.reduceAdd])))
              change wpAnyH _ _ _ _ _ _ _ _ _
              change At 15 _
              iterate 37 (first | (apply tkA; (case hi => (simp only [List.getElem?_toArray, List.getElem?_cons_zero, List.getElem?_cons_succ]; rfl)); (case hw => rfl); (case hy => (intro w' hSw; have q1 := r32 w' hSw; have q2 := r33 w' hSw; have q3 := r34 w' hSw; (try simp only [S] at hSw); go_simp; (try with_reducible rfl))); (case hs => kernel_rfl); (case hf => kernel_rfl); (case hr => kernel_rfl); (case hQ => exact fun _ _ _ h => h); (case hS => assumption); (try simp only [Act.put, List.setIfInBounds_toArray, List.set_cons_zero, List.set_cons_succ, Nat.reduceAdd])) | (apply skA; (case hi => (simp only [List.getElem?_toArray, List.getElem?_cons_zero, List.getElem?_cons_succ]; rfl)); (case hw => rfl); (case hs => kernel_rfl); (case hf => kernel_rfl); (case hr => kernel_rfl); (case hQ => exact fun _ _ _ h => h); (case hS => assumption); (try simp only [Act.put, List.setIfInBounds_toArray, List.set_cons_zero, List.set_cons_succ, Nat.reduceAdd])))
              change wpAnyH _ _ _ _ _ _ _ _ _
              refine wpAnyH_done (by kernel_rfl) ?_ _
              go_wp2_with fail
              go_meet
              exact ⟨vbool (by rw [hres]; rfl), hS1⟩
            · have hres : stepOk l k x = false := by rw [hso]; cases ho : x.one; rfl; have := hone.out.1 ho; omega
              have f0 : ¬ (x.place < 2) := by omega
              have d0 : decide (x.place < 2) = false := decide_eq_false f0
              have f1 : ¬ (128 ≤ x.place) := by omega
              have d1 : decide (128 ≤ x.place) = false := decide_eq_false f1
              have f2 : ¬ (x.blocks < 1) := by omega
              have d2 : decide (x.blocks < 1) = false := decide_eq_false f2
              have f3 : ¬ (8 < x.blocks) := by omega
              have d3 : decide (8 < x.blocks) = false := decide_eq_false f3
              have f4 : ¬ (128 - x.place < x.blocks) := by omega
              have d4 : decide (128 - x.place < x.blocks) = false := decide_eq_false f4
              have f5 : ¬ (x.refs < 0) := by omega
              have d5 : decide (x.refs < 0) = false := decide_eq_false f5
              have f6 : 1000 < x.refs := by omega
              have d6 : decide (1000 < x.refs) = true := decide_eq_true f6
              have w59 : IntKind.i64.wrap (128 - x.place) = 128 - x.place := wrap_small _ (by omega) (by omega)
              clear hso
              let S : World → Prop := fun w' => Below Y.heap.size Y w'
              have hS0 : S Y.drew := (Below.refl _ _).drew
              have r32 := fun w' (h : S w') => ((show Below Y.heap.size Y w' from h).cell (p := ⟨wr.heap.size, 32, none⟩) l4).trans c32
              have r33 := fun w' (h : S w') => ((show Below Y.heap.size Y w' from h).cell (p := ⟨wr.heap.size, 33, none⟩) l4).trans c33
              have r34 := fun w' (h : S w') => ((show Below Y.heap.size Y w' from h).cell (p := ⟨wr.heap.size, 34, none⟩) l4).trans c34
              have qk := fun w' (h : S w') => bRange (show Below Y.heap.size Y w' from h) l4 rk
              have qy := fun w' (h : S w') => bRange (show Below Y.heap.size Y w' from h) hbY' qy0
              clear c32 c33 c34 rk qy0
              refine wp_region_held (S := S) (by kernel_rfl) ?_
              change wpAnyH _ _ _ _ S _ _ _ Y.drew
              change At 0 _
              iterate 3 (first | (apply tkA; (case hi => (simp only [List.getElem?_toArray, List.getElem?_cons_zero, List.getElem?_cons_succ]; rfl)); (case hw => rfl); (case hy => (intro w' hSw; (try simp only [S] at hSw); go_simp; (try with_reducible rfl))); (case hs => kernel_rfl); (case hf => kernel_rfl); (case hr => kernel_rfl); (case hQ => exact fun _ _ _ h => h); (case hS => assumption); (try simp only [Act.put, List.setIfInBounds_toArray, List.set_cons_zero, List.set_cons_succ, Nat.reduceAdd])) | (apply skA; (case hi => (simp only [List.getElem?_toArray, List.getElem?_cons_zero, List.getElem?_cons_succ]; rfl)); (case hw => rfl); (case hs => kernel_rfl); (case hf => kernel_rfl); (case hr => kernel_rfl); (case hQ => exact fun _ _ _ h => h); (case hS => assumption); (try simp only [Act.put, List.setIfInBounds_toArray, List.set_cons_zero, List.set_cons_succ, Nat.reduceAdd])))
              change wpAnyH _ _ _ _ _ _ _ _ _
              change At 3 _
              iterate 5 (first | (apply tkA; (case hi => (simp only [List.getElem?_toArray, List.getElem?_cons_zero, List.getElem?_cons_succ]; rfl)); (case hw => rfl); (case hy => (intro w' hSw; (try simp only [S] at hSw); go_simp; (try with_reducible rfl))); (case hs => kernel_rfl); (case hf => kernel_rfl); (case hr => kernel_rfl); (case hQ => exact fun _ _ _ h => h); (case hS => assumption); (try simp only [Act.put, List.setIfInBounds_toArray, List.set_cons_zero, List.set_cons_succ, Nat.reduceAdd])) | (apply skA; (case hi => (simp only [List.getElem?_toArray, List.getElem?_cons_zero, List.getElem?_cons_succ]; rfl)); (case hw => rfl); (case hs => kernel_rfl); (case hf => kernel_rfl); (case hr => kernel_rfl); (case hQ => exact fun _ _ _ h => h); (case hS => assumption); (try simp only [Act.put, List.setIfInBounds_toArray, List.set_cons_zero, List.set_cons_succ, Nat.reduceAdd])))
              change wpAnyH _ _ _ _ _ _ _ _ _
              refine wpAnyH_take (i := 8) (oi := ?oi_24) (v := ?v_24) ?ho_24 ?h1_24 ?h2_24 ?h3_24 ?hq_24 (Or.inl ⟨?hw_24, ?hy_24⟩) ?hs_24 ?rest_24; (case h2_24 => kernel_rfl); (case h3_24 => kernel_rfl); (case ho_24 => (simp only [List.getElem?_toArray, List.getElem?_cons_zero, List.getElem?_cons_succ]; rfl)); (case h1_24 => kernel_rfl); (case hq_24 => exact fun _ _ _ h => h); (case hw_24 => rfl); (case hy_24 => (intro w' hSw; refine exec_load_row (x := .tmp 27) ?_ ?_ (qy w' hSw) Try.underlying71 ?_ iY <;> rfl)); (case hs_24 => assumption); (try simp only [Act.put, List.setIfInBounds_toArray, List.set_cons_zero, List.set_cons_succ])
              refine wpAnyH_take (i := 9) (oi := ?oi_8) (v := ?v_8) ?ho_8 ?h1_8 ?h2_8 ?h3_8 ?hq_8 (Or.inl ⟨?hw_8, ?hy_8⟩) ?hs_8 ?rest_8; (case h2_8 => kernel_rfl); (case h3_8 => kernel_rfl); (case ho_8 => (simp only [List.getElem?_toArray, List.getElem?_cons_zero, List.getElem?_cons_succ]; rfl)); (case h1_8 => kernel_rfl); (case hq_8 => exact fun _ _ _ h => h); (case hw_8 => rfl); (case hy_8 => (intro w' hSw; (try simp only [S] at hSw); go_simp; (try with_reducible rfl))); (case hs_8 => assumption); (try simp only [Act.put, List.setIfInBounds_toArray, List.set_cons_zero, List.set_cons_succ])
              refine wpAnyH_take (i := 10) (oi := ?oi_25) (v := ?v_25) ?ho_25 ?h1_25 ?h2_25 ?h3_25 ?hq_25 (Or.inl ⟨?hw_25, ?hy_25⟩) ?hs_25 ?rest_25; (case h2_25 => kernel_rfl); (case h3_25 => kernel_rfl); (case ho_25 => (simp only [List.getElem?_toArray, List.getElem?_cons_zero, List.getElem?_cons_succ]; rfl)); (case h1_25 => kernel_rfl); (case hq_25 => exact fun _ _ _ h => h); (case hw_25 => rfl); (case hy_25 => (intro w' hSw; refine exec_load_row (x := .tmp 29) ?_ ?_ (qk w' hSw) Try.underlying71 ?_ iD <;> rfl)); (case hs_25 => assumption); (try simp only [Act.put, List.setIfInBounds_toArray, List.set_cons_zero, List.set_cons_succ])
              refine wpAnyH_ready (rs := [11]) (by kernel_rfl) (by simp) (AllReadyH.cons (o := ?oo11_35) ?hoo11_35 (fun K hK => ?steponly35) AllReadyH.nil); (case hoo11_35 => (simp only [List.getElem?_toArray, List.getElem?_cons_zero, List.getElem?_cons_succ]; rfl))
              go_simp
              refine Calls.mono (hless _) ?_
              rintro e w31 ⟨rfl, hb31⟩
              have hS1 : S w31 := hS0.trans (hb31.mono (Nat.le_refl _))
              refine hK.out _ _ hS1 (fun _ => ?_)
              clear hK K
              (try simp only [Act.put, List.setIfInBounds_toArray, List.set_cons_zero, List.set_cons_succ])
              change At 12 _
              iterate 3 (first | (apply tkA; (case hi => (simp only [List.getElem?_toArray, List.getElem?_cons_zero, List.getElem?_cons_succ]; rfl)); (case hw => rfl); (case hy => (intro w' hSw; (try simp only [S] at hSw); go_simp; (try with_reducible rfl))); (case hs => kernel_rfl); (case hf => kernel_rfl); (case hr => kernel_rfl); (case hQ => exact fun _ _ _ h => h); (case hS => assumption); (try simp only [Act.put, List.setIfInBounds_toArray, List.set_cons_zero, List.set_cons_succ, Nat.reduceAdd])) | (apply skA; (case hi => (simp only [List.getElem?_toArray, List.getElem?_cons_zero, List.getElem?_cons_succ]; rfl)); (case hw => rfl); (case hs => kernel_rfl); (case hf => kernel_rfl); (case hr => kernel_rfl); (case hQ => exact fun _ _ _ h => h); (case hS => assumption); (try simp only [Act.put, List.setIfInBounds_toArray, List.set_cons_zero, List.set_cons_succ, Nat.reduceAdd])))
              change wpAnyH _ _ _ _ _ _ _ _ _
              change At 15 _
              iterate 37 (first | (apply tkA; (case hi => (simp only [List.getElem?_toArray, List.getElem?_cons_zero, List.getElem?_cons_succ]; rfl)); (case hw => rfl); (case hy => (intro w' hSw; have q1 := r32 w' hSw; have q2 := r33 w' hSw; have q3 := r34 w' hSw; (try simp only [S] at hSw); go_simp; (try with_reducible rfl))); (case hs => kernel_rfl); (case hf => kernel_rfl); (case hr => kernel_rfl); (case hQ => exact fun _ _ _ h => h); (case hS => assumption); (try simp only [Act.put, List.setIfInBounds_toArray, List.set_cons_zero, List.set_cons_succ, Nat.reduceAdd])) | (apply skA; (case hi => (simp only [List.getElem?_toArray, List.getElem?_cons_zero, List.getElem?_cons_succ]; rfl)); (case hw => rfl); (case hs => kernel_rfl); (case hf => kernel_rfl); (case hr => kernel_rfl); (case hQ => exact fun _ _ _ h => h); (case hS => assumption); (try simp only [Act.put, List.setIfInBounds_toArray, List.set_cons_zero, List.set_cons_succ, Nat.reduceAdd])))
              change wpAnyH _ _ _ _ _ _ _ _ _
              refine wpAnyH_done (by kernel_rfl) ?_ _
              go_wp2_with fail
              go_meet
              exact ⟨vbool (by rw [hres]; rfl), hS1⟩
            · have hres : stepOk l k x = true := by rw [hso]; exact hone.out.2 ⟨g0, g1, g2, g3, g4, g5, g6⟩
              have f0 : ¬ (x.place < 2) := by omega
              have d0 : decide (x.place < 2) = false := decide_eq_false f0
              have f1 : ¬ (128 ≤ x.place) := by omega
              have d1 : decide (128 ≤ x.place) = false := decide_eq_false f1
              have f2 : ¬ (x.blocks < 1) := by omega
              have d2 : decide (x.blocks < 1) = false := decide_eq_false f2
              have f3 : ¬ (8 < x.blocks) := by omega
              have d3 : decide (8 < x.blocks) = false := decide_eq_false f3
              have f4 : ¬ (128 - x.place < x.blocks) := by omega
              have d4 : decide (128 - x.place < x.blocks) = false := decide_eq_false f4
              have f5 : ¬ (x.refs < 0) := by omega
              have d5 : decide (x.refs < 0) = false := decide_eq_false f5
              have f6 : ¬ (1000 < x.refs) := by omega
              have d6 : decide (1000 < x.refs) = false := decide_eq_false f6
              have w59 : IntKind.i64.wrap (128 - x.place) = 128 - x.place := wrap_small _ (by omega) (by omega)
              clear hso
              let S : World → Prop := fun w' => Below Y.heap.size Y w'
              have hS0 : S Y.drew := (Below.refl _ _).drew
              have r32 := fun w' (h : S w') => ((show Below Y.heap.size Y w' from h).cell (p := ⟨wr.heap.size, 32, none⟩) l4).trans c32
              have r33 := fun w' (h : S w') => ((show Below Y.heap.size Y w' from h).cell (p := ⟨wr.heap.size, 33, none⟩) l4).trans c33
              have r34 := fun w' (h : S w') => ((show Below Y.heap.size Y w' from h).cell (p := ⟨wr.heap.size, 34, none⟩) l4).trans c34
              have qk := fun w' (h : S w') => bRange (show Below Y.heap.size Y w' from h) l4 rk
              have qy := fun w' (h : S w') => bRange (show Below Y.heap.size Y w' from h) hbY' qy0
              clear c32 c33 c34 rk qy0
              refine wp_region_held (S := S) (by kernel_rfl) ?_
              change wpAnyH _ _ _ _ S _ _ _ Y.drew
              change At 0 _
              iterate 3 (first | (apply tkA; (case hi => (simp only [List.getElem?_toArray, List.getElem?_cons_zero, List.getElem?_cons_succ]; rfl)); (case hw => rfl); (case hy => (intro w' hSw; (try simp only [S] at hSw); go_simp; (try with_reducible rfl))); (case hs => kernel_rfl); (case hf => kernel_rfl); (case hr => kernel_rfl); (case hQ => exact fun _ _ _ h => h); (case hS => assumption); (try simp only [Act.put, List.setIfInBounds_toArray, List.set_cons_zero, List.set_cons_succ, Nat.reduceAdd])) | (apply skA; (case hi => (simp only [List.getElem?_toArray, List.getElem?_cons_zero, List.getElem?_cons_succ]; rfl)); (case hw => rfl); (case hs => kernel_rfl); (case hf => kernel_rfl); (case hr => kernel_rfl); (case hQ => exact fun _ _ _ h => h); (case hS => assumption); (try simp only [Act.put, List.setIfInBounds_toArray, List.set_cons_zero, List.set_cons_succ, Nat.reduceAdd])))
              change wpAnyH _ _ _ _ _ _ _ _ _
              change At 3 _
              iterate 5 (first | (apply tkA; (case hi => (simp only [List.getElem?_toArray, List.getElem?_cons_zero, List.getElem?_cons_succ]; rfl)); (case hw => rfl); (case hy => (intro w' hSw; (try simp only [S] at hSw); go_simp; (try with_reducible rfl))); (case hs => kernel_rfl); (case hf => kernel_rfl); (case hr => kernel_rfl); (case hQ => exact fun _ _ _ h => h); (case hS => assumption); (try simp only [Act.put, List.setIfInBounds_toArray, List.set_cons_zero, List.set_cons_succ, Nat.reduceAdd])) | (apply skA; (case hi => (simp only [List.getElem?_toArray, List.getElem?_cons_zero, List.getElem?_cons_succ]; rfl)); (case hw => rfl); (case hs => kernel_rfl); (case hf => kernel_rfl); (case hr => kernel_rfl); (case hQ => exact fun _ _ _ h => h); (case hS => assumption); (try simp only [Act.put, List.setIfInBounds_toArray, List.set_cons_zero, List.set_cons_succ, Nat.reduceAdd])))
              change wpAnyH _ _ _ _ _ _ _ _ _
              refine wpAnyH_take (i := 8) (oi := ?oi_26) (v := ?v_26) ?ho_26 ?h1_26 ?h2_26 ?h3_26 ?hq_26 (Or.inl ⟨?hw_26, ?hy_26⟩) ?hs_26 ?rest_26; (case h2_26 => kernel_rfl); (case h3_26 => kernel_rfl); (case ho_26 => (simp only [List.getElem?_toArray, List.getElem?_cons_zero, List.getElem?_cons_succ]; rfl)); (case h1_26 => kernel_rfl); (case hq_26 => exact fun _ _ _ h => h); (case hw_26 => rfl); (case hy_26 => (intro w' hSw; refine exec_load_row (x := .tmp 27) ?_ ?_ (qy w' hSw) Try.underlying71 ?_ iY <;> rfl)); (case hs_26 => assumption); (try simp only [Act.put, List.setIfInBounds_toArray, List.set_cons_zero, List.set_cons_succ])
              refine wpAnyH_take (i := 9) (oi := ?oi_9) (v := ?v_9) ?ho_9 ?h1_9 ?h2_9 ?h3_9 ?hq_9 (Or.inl ⟨?hw_9, ?hy_9⟩) ?hs_9 ?rest_9; (case h2_9 => kernel_rfl); (case h3_9 => kernel_rfl); (case ho_9 => (simp only [List.getElem?_toArray, List.getElem?_cons_zero, List.getElem?_cons_succ]; rfl)); (case h1_9 => kernel_rfl); (case hq_9 => exact fun _ _ _ h => h); (case hw_9 => rfl); (case hy_9 => (intro w' hSw; (try simp only [S] at hSw); go_simp; (try with_reducible rfl))); (case hs_9 => assumption); (try simp only [Act.put, List.setIfInBounds_toArray, List.set_cons_zero, List.set_cons_succ])
              refine wpAnyH_take (i := 10) (oi := ?oi_27) (v := ?v_27) ?ho_27 ?h1_27 ?h2_27 ?h3_27 ?hq_27 (Or.inl ⟨?hw_27, ?hy_27⟩) ?hs_27 ?rest_27; (case h2_27 => kernel_rfl); (case h3_27 => kernel_rfl); (case ho_27 => (simp only [List.getElem?_toArray, List.getElem?_cons_zero, List.getElem?_cons_succ]; rfl)); (case h1_27 => kernel_rfl); (case hq_27 => exact fun _ _ _ h => h); (case hw_27 => rfl); (case hy_27 => (intro w' hSw; refine exec_load_row (x := .tmp 29) ?_ ?_ (qk w' hSw) Try.underlying71 ?_ iD <;> rfl)); (case hs_27 => assumption); (try simp only [Act.put, List.setIfInBounds_toArray, List.set_cons_zero, List.set_cons_succ])
              refine wpAnyH_ready (rs := [11]) (by kernel_rfl) (by simp) (AllReadyH.cons (o := ?oo11_36) ?hoo11_36 (fun K hK => ?steponly36) AllReadyH.nil); (case hoo11_36 => (simp only [List.getElem?_toArray, List.getElem?_cons_zero, List.getElem?_cons_succ]; rfl))
              go_simp
              refine Calls.mono (hless _) ?_
              rintro e w31 ⟨rfl, hb31⟩
              have hS1 : S w31 := hS0.trans (hb31.mono (Nat.le_refl _))
              refine hK.out _ _ hS1 (fun _ => ?_)
              clear hK K
              (try simp only [Act.put, List.setIfInBounds_toArray, List.set_cons_zero, List.set_cons_succ])
              change At 12 _
              iterate 3 (first | (apply tkA; (case hi => (simp only [List.getElem?_toArray, List.getElem?_cons_zero, List.getElem?_cons_succ]; rfl)); (case hw => rfl); (case hy => (intro w' hSw; (try simp only [S] at hSw); go_simp; (try with_reducible rfl))); (case hs => kernel_rfl); (case hf => kernel_rfl); (case hr => kernel_rfl); (case hQ => exact fun _ _ _ h => h); (case hS => assumption); (try simp only [Act.put, List.setIfInBounds_toArray, List.set_cons_zero, List.set_cons_succ, Nat.reduceAdd])) | (apply skA; (case hi => (simp only [List.getElem?_toArray, List.getElem?_cons_zero, List.getElem?_cons_succ]; rfl)); (case hw => rfl); (case hs => kernel_rfl); (case hf => kernel_rfl); (case hr => kernel_rfl); (case hQ => exact fun _ _ _ h => h); (case hS => assumption); (try simp only [Act.put, List.setIfInBounds_toArray, List.set_cons_zero, List.set_cons_succ, Nat.reduceAdd])))
              change wpAnyH _ _ _ _ _ _ _ _ _
              change At 15 _
              iterate 37 (first | (apply tkA; (case hi => (simp only [List.getElem?_toArray, List.getElem?_cons_zero, List.getElem?_cons_succ]; rfl)); (case hw => rfl); (case hy => (intro w' hSw; have q1 := r32 w' hSw; have q2 := r33 w' hSw; have q3 := r34 w' hSw; (try simp only [S] at hSw); go_simp; (try with_reducible rfl))); (case hs => kernel_rfl); (case hf => kernel_rfl); (case hr => kernel_rfl); (case hQ => exact fun _ _ _ h => h); (case hS => assumption); (try simp only [Act.put, List.setIfInBounds_toArray, List.set_cons_zero, List.set_cons_succ, Nat.reduceAdd])) | (apply skA; (case hi => (simp only [List.getElem?_toArray, List.getElem?_cons_zero, List.getElem?_cons_succ]; rfl)); (case hw => rfl); (case hs => kernel_rfl); (case hf => kernel_rfl); (case hr => kernel_rfl); (case hQ => exact fun _ _ _ h => h); (case hS => assumption); (try simp only [Act.put, List.setIfInBounds_toArray, List.set_cons_zero, List.set_cons_succ, Nat.reduceAdd])))
              change wpAnyH _ _ _ _ _ _ _ _ _
              refine wpAnyH_done (by kernel_rfl) ?_ _
              go_wp2_with fail
              go_meet
              exact ⟨vbool (by rw [hres]; rfl), hS1⟩
      case rest =>
        obtain ⟨rfl, hbx⟩ := hcut
        have hB2 := HT.out.2.trans (hbx.mono HT.out.2.size)
        cases hso : stepOk l k x
        · have hno : chain l = false := by
            cases hc : chain l
            · rfl
            · have := (chain_iff l).1 hc k (by rw [HL.out.1]; exact hlt)
              have h2 := hst.out.1 (fun j hj => (chain_iff l).1 hc j (by rw [HL.out.1]; omega))
              rw [hso] at h2
              exact absurd h2.2 (by simp)
          have HN := Lib.hid (And.intro hno hB2)
          clear hno hB2 hbx hso
          go_wp2_with fail
          go_ret
          exact Ret.mk (vbool HN.out.1.symm) HN.out.2
        · have hto' := hst.out.2 ⟨HT.out.1, hso⟩
          have HN := Lib.hid (And.intro hto' hB2)
          clear hto' hB2 hbx hso
          go_wp2_with fail
          go_roundw
          case rel => exact ⟨k + 1, by omega, by go_num, HN.out.2, HN.out.1⟩
          case measure => simp [intOf]; omega
    · obtain rfl : k = n := by omega
      have hi1 : ¬ (k : Int) < (k : Int) := by omega
      have hyes : chain l = true := (chain_iff l).2 (by rw [HL.out.1]; exact hto)
      have HN := Lib.hid (And.intro hyes hbr)
      clear hyes hbr hto
      go_wp2_with fail
      go_ret
      exact Ret.mk (vbool HN.out.1.symm) HN.out.2
end Go.Proofs.Ythmjkgpfnpdddaa
