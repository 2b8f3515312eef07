/- slices.Index and slices.Contains at ints; the walk over a paragraph's walk (s10/bkwalk.py writes it). -/
import Derived.Test.YtnojikbecohhfaaBkBest
namespace Go.Proofs.Ytnojikbecohhfaa
set_option linter.unusedSimpArgs false
set_option linter.unusedVariables false
open Go.RowKit Go.Sort

theorem mem_of_at {l : List Int} {v : Int} {k : Nat} (h : l[k]? = some v) : v ∈ l := List.mem_of_getElem? h
theorem not_mem_of {l : List Int} {v : Int} {n : Nat} (hl : l.length = n) (h : ∀ j : Nat, j < n → l[j]? ≠ some v) : ¬ v ∈ l := by
  intro hm
  obtain ⟨j, hj, e⟩ := List.getElem_of_mem hm
  exact h j (by omega) (by rw [List.getElem?_eq_getElem hj, e])
set_option maxRecDepth 100000 in
theorem index_any {A : Option Addr} {n c B : Nat} {l : List Int} (v : Int) (w : World) (h : IvAt w B A n c l) (hB : B ≤ w.heap.size) (hn : n ≤ 1000000) :
    Calls Try.prog 46 #[.slice A n c, .int .i64 v] w fun e w' => ∃ r : Int, e = .returned (.int .i64 r) ∧ (0 ≤ r ↔ v ∈ l) ∧ w = w' := by
  have hln := h.len
  have HL := Lib.hid hln
  have HH := Lib.hid h
  clear h hln
  go_enter Try.func46, Try.ntmps46
  go_wp2_with fail
  go_loopw [8] (fun i wr => ∃ k : Nat, k ≤ n ∧ i = .int .i64 k ∧ wr = w ∧ ∀ j : Nat, j < k → l[j]? ≠ some v) (fun i _ => n - (intOf i).toNat)
  case atStart => exact ⟨0, by omega, rfl, rfl, fun j hj => absurd hj (by omega)⟩
  case round =>
    obtain ⟨k, hk, rfl, rfl, hne⟩ := hrel
    by_cases hlt : k < n
    · obtain ⟨x, hx⟩ : ∃ x, l[k]? = some x := ⟨_, List.getElem?_eq_getElem (by rw [HL.out]; exact hlt)⟩
      obtain ⟨b, o, rfl, hbB, hxr⟩ := HH.out.entry hx
      have hi1 : (k : Int) < (n : Int) := by omega
      have HX := Lib.hid (And.intro hx hne)
      clear hx hne
      by_cases hxv : v = x
      · subst hxv
        go_wp2_with fail
        go_ret
        exact ⟨k, rfl, iff_of_true (by omega) (mem_of_at HX.out.1), by trivial⟩
      · have HV := Lib.hid hxv
        go_wp2_with fail
        go_roundw
        case rel => exact ⟨k + 1, by omega, by go_num, by trivial, fun j hj => by
          rcases Nat.lt_or_ge j k with h | h
          · exact HX.out.2 j h
          · obtain rfl : j = k := by omega
            rw [HX.out.1]
            intro e
            injection e with e
            exact HV.out e.symm⟩
        case measure => simp [intOf]; omega
    · obtain rfl : k = n := by omega
      have hi1 : ¬ (k : Int) < (k : Int) := by omega
      have HX := Lib.hid hne
      clear hne
      go_wp2_with fail
      go_ret
      exact ⟨-1, rfl, iff_of_false (by omega) (not_mem_of HL.out HX.out), rfl⟩
theorem contains_any {A : Option Addr} {n c B : Nat} {l : List Int} (v : Int) (w : World) (h : IvAt w B A n c l) (hB : B ≤ w.heap.size) (hn : n ≤ 1000000) :
    Calls Try.prog 35 #[.slice A n c, .int .i64 v] w fun e w' => e = .returned (.bool (decide (v ∈ l))) ∧ w = w' := by
  have H := index_any v w h hB hn
  clear h
  go_enter Try.func35, Try.ntmps35
  go_wp2_with fail
  refine Calls.mono H ?_
  rintro e w' ⟨r, rfl, hr, rfl⟩
  have HR := Lib.hid hr
  clear hr H
  go_wp2_with fail
  go_ret
  exact ⟨ret_bool (decide_eq_decide.2 HR.out), rfl⟩

def plcs (l : List It) : List Int := (brks l).map (fun n : Nat => (n : Int))
def stepW (l : List It) (wd tl : Int) : Int → WY → Bool → List Int → Option (WY × Bool)
  | _, y, m, [] => some (y, m)
  | f, y, m, t :: ts => if f < t ∧ t ∈ plcs l ∧ bx l f t = true then stepW l wd tl t (withW l wd tl y f t) (m && (lineD l wd tl f t).may) ts else none
def walkP (l : List It) (wd tl : Int) (bs : List Int) : Option (WY × Bool) := if 600 < l.length ∨ bs.getLast? ≠ some (l.length : Int) then none else stepW l wd tl (-1) wy0 true bs
def wkY (o : Option (WY × Bool)) : WY := (o.getD (wy0, false)).1
def wkM (o : Option (WY × Bool)) : Bool := (o.getD (wy0, false)).2
def WalkP (w : World) (o : Option (WY × Bool)) (e : Ending) (w' : World) : Prop := ∃ A m c, e = .returned (.tuple #[wyv A m c (wkY o).total (wkY o).over, .bool o.isSome, .bool (wkM o)]) ∧ IvAt w' w'.heap.size A m c (wkY o).ends ∧ (∀ b o i, A = some ⟨b, o, i⟩ → w.heap.size ≤ b) ∧ Below w.heap.size w w'
theorem plcs_rng {l : List It} {t : Int} (h : t ∈ plcs l) : 0 ≤ t ∧ t ≤ l.length := by
  obtain ⟨z, hz, e⟩ := List.mem_map.1 h
  have := brks_le z hz
  omega
theorem IvN.of_own {w U : World} {F m c : Nat} {A : Option Addr} {l : List Int} (hl : l.length = m) (hown : U.ownsRow w.heap.size 3 1 (.slice A m c) m (ivs l)) (hF : F < w.heap.size) (hw : ∀ z ∈ l, -9223372036854775808 ≤ z ∧ z ≤ 9223372036854775807) : IvN U F A m c l := IvN.own (Z := w) hl hown hF hw
attribute [-go_sem] Builtin.append_
set_option maxHeartbeats 16000000 in
set_option maxRecDepth 100000 in
theorem walk_any {A B : Option Addr} {n c m c' : Nat} {l : List It} {wd tl : Int} {bs : List Int} (hn : n ≤ 1000000) (hm : m ≤ 1000000) (hwd : 0 ≤ wd ∧ wd ≤ 10000) (w : World) (h : Sl w w.heap.size 6 A n (encs l)) (hb : IvAt w w.heap.size B m c' bs) :
    Calls Try.prog 27 #[pgv A n c wd tl, .slice B m c'] w (WalkP w (walkP l wd tl bs)) := by
  have hl := its_len h
  have hbl := hb.len
  obtain ⟨R, hR⟩ : ∃ q, walkP l wd tl bs = q := ⟨_, rfl⟩
  rw [hR]
  unfold walkP at hR
  rw [hl] at hR
  obtain ⟨V, hV, y2, hbV⟩ := pgbox w A n c wd tl
  obtain ⟨b2, hb2⟩ : ∃ b, w.heap.size = b := ⟨_, rfl⟩
  rw [hb2] at y2
  have l2 := (Array.getElem?_eq_some_iff.1 y2).1
  obtain ⟨zw, hzw⟩ : ∃ q, wyz = q := ⟨_, rfl⟩
  have hwz := wyZ
  rw [hzw] at hwz
  have hz3 : zw.size = 3 := by rw [← hzw]; rfl
  obtain ⟨W, hW⟩ : ∃ q, V.alloc (.cells zw 37) = q := ⟨_, rfl⟩
  obtain ⟨b4, hb4⟩ : ∃ b, V.heap.size = b := ⟨_, rfl⟩
  have x4 : W.heap[b4]? = some (.cells zw 37) := by rw [← hW, ← hb4]; exact heap_alloc_new _ _
  have hb24 : b2 < b4 := by rw [← hb4]; exact l2
  have hbW : Below V.heap.size V W := by rw [← hW]; exact (Below.refl _ _).alloc (Nat.le_refl _) _
  have hBW := bNext hbV hbW
  have x2 := bBlk hbW l2 y2
  have c0 : W.cell? ⟨b2, 0, none⟩ = some (.slice A n c) := blk_cell x2 rfl
  have hbr := breaks_any (c := c) (by omega) (h.next hBW)
  have l4 := (Array.getElem?_eq_some_iff.1 x4).1
  have l2W := (Array.getElem?_eq_some_iff.1 x2).1
  have szV := hbV.size
  have HR := Lib.hid (And.intro hR (And.intro hl hbl))
  have HS0 := Lib.hid (And.intro h (And.intro hb (And.intro hBW (And.intro x2 (And.intro x4 hzw)))))
  unfold pgv
  clear h hb hbV y2 hbW hBW x2 x4 hR hbl hzw l2
  go_enter Try.func27, Try.ntmps27
  go_upto_region 1 with (first | (refine wpList_new rfl hwz rfl ?_) | fail)
  try rw [hV]
  try rw [hb2]
  try rw [hW]
  try rw [hb4]
  clear hV hW
  go_wp2_with fail
  refine Calls.mono hbr ?_
  rintro e Y ⟨AP, cP, rfl, hownP, hbY⟩
  clear hbr
  obtain ⟨h, hb, hBW, x2, x4, hzw⟩ := HS0.out
  have y2 := bBlk hbY l2W x2
  have y4 := bBlk hbY l4 x4
  have hBY := bNext hBW hbY
  have hlY := h.next hBY
  have hbY' := hb.nxt hBY
  rw [ints_ivs] at hownP
  have sW : b4 < W.heap.size := l4
  have hivP : IvN Y b4 AP (brks l).length cP (plcs l) := IvN.own (Z := W) (by unfold plcs; rw [List.length_map]) hownP sW (fun z hz => by have := plcs_rng hz; omega)
  obtain ⟨NP, hNP⟩ : ∃ q, (brks l).length = q := ⟨_, rfl⟩
  rw [hNP] at hivP ⊢
  have hNP1 : NP ≤ n + 1 := by have h1 := brks_len l; have h2 := brksTo_len l l.length; omega
  have s0 := hbY.size
  have ly2 := (Array.getElem?_eq_some_iff.1 y2).1
  have ly4 := (Array.getElem?_eq_some_iff.1 y4).1
  have c0Y : Y.cell? ⟨b2, 0, none⟩ = some (.slice A n c) := blk_cell y2 rfl
  have wys := wy_size
  have pgi : (Try.prog.info? 59).map (·.size) = some (#[Value.slice A n c, .int .i64 wd, .int .i64 tl] : Array Value).size := pgi_size
  have HY := Lib.hid (And.intro hBY (And.intro hlY (And.intro hbY' (And.intro hivP (And.intro y2 (And.intro y4 (And.intro hzw (And.intro hb h))))))))
  clear h hb hBW x2 x4 hzw hBY hlY hbY' hivP y2 y4 hownP hbY HS0 c0 hNP l2W l4
  by_cases h6 : 600 < n
  · have h6' : (600 : Int) < (n : Int) := by omega
    have HR0 := Lib.hid (show R = none by rw [← HR.out.1, if_pos (.inl h6)])
    go_upto_region 2 with (fail)
    let S : World → Prop := fun w' => Below Y.heap.size Y w'
    have hS0 : S Y.drew := (Below.refl _ _).drew
    have q0 : ∀ w', S w' → w'.cell? ⟨b2, 0, none⟩ = some (.slice A n c) := fun w' h => (Below.cell (show Below Y.heap.size Y w' from h) (p := ⟨b2, 0, none⟩) ly2).trans c0Y

    refine wp_region_held (S := S) (by kernel_rfl) ?_
    change wpAnyH _ _ _ _ S _ _ _ Y.drew
    change At 0 _
    iterate 21 (first | (apply tkA; (case hi => (simp only [List.getElem?_toArray, List.getElem?_cons_zero, List.getElem?_cons_succ]; rfl)); (case hw => rfl); (case hy => (intro w' hSw; have h1 := q0 w' hSw; (try simp only [S] at hSw); go_simp; (try with_reducible rfl))); (case hs => kernel_rfl); (case hf => kernel_rfl); (case hr => kernel_rfl); (case hQ => exact fun _ _ _ h => h); (case hS => assumption); (try simp only [Act.put, List.setIfInBounds_toArray, List.set_cons_zero, List.set_cons_succ, Nat.reduceAdd])) | (apply skA; (case hi => (simp only [List.getElem?_toArray, List.getElem?_cons_zero, List.getElem?_cons_succ]; rfl)); (case hw => rfl); (case hs => kernel_rfl); (case hf => kernel_rfl); (case hr => kernel_rfl); (case hQ => exact fun _ _ _ h => h); (case hS => assumption); (try simp only [Act.put, List.setIfInBounds_toArray, List.set_cons_zero, List.set_cons_succ, Nat.reduceAdd])))
    change wpAnyH _ _ _ _ _ _ _ _ _
    refine wpAnyH_done (by kernel_rfl) ?_ _
    clear q0
    have HBY := Lib.hid (bNext HY.out.1 (show Below Y.heap.size Y Y.drew from hS0))
    have y4 := bBlk (show Below Y.heap.size Y Y.drew from hS0) ly4 HY.out.2.2.2.2.2.1
    obtain ⟨zo, hzo0⟩ : ∃ q, zw = q := ⟨_, rfl⟩
    have hzo : zo.size = 3 := by rw [← hzo0]; exact hz3
    rw [hzo0] at y4
    clear hS0 hzo0
    go_wp2_with (first
      | (refine wpList_built rfl 37 #[] rfl (cs := #[.slice none 0 0, .int .i64 0, .int .i64 0]) (by simp only [List.map_toArray, List.map_nil]; exact built_wy0) ?_)
      | (refine wpList_store_row rfl 37 (.tmp 4) (.tmp 37) rfl _ #[.slice none 0 0, .int .i64 0, .int .i64 0] rfl rfl _ zo y4 wys (by rw [hzo]; rfl) (by simp [Value.oneCell']) ?_)
      | fail)
    generalize hX : World.setRow _ _ _ = X9
    have b9 : X9.heap[b4]? = some (.cells #[.slice none 0 0, .int .i64 0, .int .i64 0] 37) := by rw [← hX]; exact setRow_heap _ _ _ _ _ _ y4
    have hBX : Below w.heap.size w X9 := by rw [← hX]; exact bSetRow HBY.out (by omega) _
    clear hX
    have hld := run_loadVar_row (P := Try.prog) X9 _ _ 37 _ _ _ b9 Try.underlying37 rfl wys
    refine bodyPost_ret (by simp [results, Try.results27, Act.put, asAddr, Result.andThen, hld]; try rfl) rfl ?_
    exact ⟨none, 0, 0, by rw [HR0.out]; rfl, by rw [HR0.out]; exact ⟨fun x hx => by simp [wkY, wy0] at hx, rfl, Sl.nil, Nat.le_refl _⟩, fun b o i e => (by cases e), hBX⟩
  · have h6' : ¬ (600 : Int) < (n : Int) := by omega
    have hd6 : decide ((600 : Int) < (n : Int)) = false := decide_eq_false h6'
    by_cases hm0 : m = 0
    · subst hm0
      have hnil : bs = [] := List.length_eq_zero_iff.1 HR.out.2.2
      have HR0 := Lib.hid (show R = none by rw [← HR.out.1, hnil, if_pos (.inr (by simp))])
      clear hnil
      go_upto_region 2 with (fail)
      let S : World → Prop := fun w' => Below Y.heap.size Y w'
      have hS0 : S Y.drew := (Below.refl _ _).drew
      have q0 : ∀ w', S w' → w'.cell? ⟨b2, 0, none⟩ = some (.slice A n c) := fun w' h => (Below.cell (show Below Y.heap.size Y w' from h) (p := ⟨b2, 0, none⟩) ly2).trans c0Y

      refine wp_region_held (S := S) (by kernel_rfl) ?_
      change wpAnyH _ _ _ _ S _ _ _ Y.drew
      change At 0 _
      iterate 21 (first | (apply tkA; (case hi => (simp only [List.getElem?_toArray, List.getElem?_cons_zero, List.getElem?_cons_succ]; rfl)); (case hw => rfl); (case hy => (intro w' hSw; have h1 := q0 w' hSw; (try simp only [S] at hSw); go_simp; (try with_reducible rfl))); (case hs => kernel_rfl); (case hf => kernel_rfl); (case hr => kernel_rfl); (case hQ => exact fun _ _ _ h => h); (case hS => assumption); (try simp only [Act.put, List.setIfInBounds_toArray, List.set_cons_zero, List.set_cons_succ, Nat.reduceAdd])) | (apply skA; (case hi => (simp only [List.getElem?_toArray, List.getElem?_cons_zero, List.getElem?_cons_succ]; rfl)); (case hw => rfl); (case hs => kernel_rfl); (case hf => kernel_rfl); (case hr => kernel_rfl); (case hQ => exact fun _ _ _ h => h); (case hS => assumption); (try simp only [Act.put, List.setIfInBounds_toArray, List.set_cons_zero, List.set_cons_succ, Nat.reduceAdd])))
      change wpAnyH _ _ _ _ _ _ _ _ _
      refine wpAnyH_done (by kernel_rfl) ?_ _
      clear q0
      have HBY := Lib.hid (bNext HY.out.1 (show Below Y.heap.size Y Y.drew from hS0))
      have y4 := bBlk (show Below Y.heap.size Y Y.drew from hS0) ly4 HY.out.2.2.2.2.2.1
      obtain ⟨zo, hzo0⟩ : ∃ q, zw = q := ⟨_, rfl⟩
      have hzo : zo.size = 3 := by rw [← hzo0]; exact hz3
      rw [hzo0] at y4
      clear hS0 hzo0
      go_wp2_with (first
        | (refine wpList_built rfl 37 #[] rfl (cs := #[.slice none 0 0, .int .i64 0, .int .i64 0]) (by simp only [List.map_toArray, List.map_nil]; exact built_wy0) ?_)
        | (refine wpList_store_row rfl 37 (.tmp 4) (.tmp 37) rfl _ #[.slice none 0 0, .int .i64 0, .int .i64 0] rfl rfl _ zo y4 wys (by rw [hzo]; rfl) (by simp [Value.oneCell']) ?_)
        | fail)
      generalize hX : World.setRow _ _ _ = X9
      have b9 : X9.heap[b4]? = some (.cells #[.slice none 0 0, .int .i64 0, .int .i64 0] 37) := by rw [← hX]; exact setRow_heap _ _ _ _ _ _ y4
      have hBX : Below w.heap.size w X9 := by rw [← hX]; exact bSetRow HBY.out (by omega) _
      clear hX
      have hld := run_loadVar_row (P := Try.prog) X9 _ _ 37 _ _ _ b9 Try.underlying37 rfl wys
      refine bodyPost_ret (by simp [results, Try.results27, Act.put, asAddr, Result.andThen, hld]; try rfl) rfl ?_
      exact ⟨none, 0, 0, by rw [HR0.out]; rfl, by rw [HR0.out]; exact ⟨fun x hx => by simp [wkY, wy0] at hx, rfl, Sl.nil, Nat.le_refl _⟩, fun b o i e => (by cases e), hBX⟩
    · obtain ⟨x, hx⟩ : ∃ x, bs[m - 1]? = some x := ⟨_, List.getElem?_eq_getElem (by rw [HR.out.2.2]; omega)⟩
      have hlast : bs.getLast? = some x := by rw [List.getLast?_eq_getElem?, HR.out.2.2]; exact hx
      have hxw : -9223372036854775808 ≤ x ∧ x ≤ 9223372036854775807 := HY.out.2.2.1.wide x (List.mem_of_getElem? hx)
      obtain ⟨bB, oB, rfl, lB0, hcx0⟩ := HY.out.2.2.2.2.2.2.2.1.entry hx
      have hcx := (HY.out.1.cell (p := ⟨bB, oB + (m - 1), none⟩) lB0).trans hcx0
      have lB : bB < Y.heap.size := Nat.lt_of_lt_of_le lB0 HY.out.1.size
      clear hcx0
      have m1 : IntKind.i64.wrap ((m : Int) - 1) = ((m - 1 : Nat) : Int) := by rw [wrap_small _ (by omega) (by omega)]; omega
      have m2 : ((m - 1 : Nat) : Int) < (m : Int) := by omega
      have m3 : m - 1 < m := by omega
      have m4 : ¬ (m : Int) = 0 := by omega
      have hd4 : ((m : Int) == 0) = false := beq_eq_false_iff_ne.2 m4
      by_cases hxn : x = (n : Int)
      · have hR1 : stepW l wd tl (-1) wy0 true bs = R := by rw [← HR.out.1, if_neg (by rintro (h | h); exact h6 h; exact h (by rw [hlast, hxn]))]
        subst hxn
        have HR1 := Lib.hid hR1
        clear hx hlast hR1 hxw
        go_upto_region 2 with (fail)
        let S : World → Prop := fun w' => Below Y.heap.size Y w'
        have hS0 : S Y.drew := (Below.refl _ _).drew
        have q0 : ∀ w', S w' → w'.cell? ⟨b2, 0, none⟩ = some (.slice A n c) := fun w' h => (Below.cell (show Below Y.heap.size Y w' from h) (p := ⟨b2, 0, none⟩) ly2).trans c0Y
        have qx : ∀ w', S w' → w'.cell? ⟨bB, oB + (m - 1), none⟩ = some (.int .i64 (n : Int)) := fun w' h => (Below.cell (show Below Y.heap.size Y w' from h) (p := ⟨bB, oB + (m - 1), none⟩) lB).trans hcx
        clear hcx
        refine wp_region_held (S := S) (by kernel_rfl) ?_
        change wpAnyH _ _ _ _ S _ _ _ Y.drew
        change At 0 _
        iterate 21 (first | (apply tkA; (case hi => (simp only [List.getElem?_toArray, List.getElem?_cons_zero, List.getElem?_cons_succ]; rfl)); (case hw => rfl); (case hy => (intro w' hSw; have h1 := q0 w' hSw; have h2 := qx w' hSw; (try simp only [S] at hSw); go_simp; (try with_reducible rfl))); (case hs => kernel_rfl); (case hf => kernel_rfl); (case hr => kernel_rfl); (case hQ => exact fun _ _ _ h => h); (case hS => assumption); (try simp only [Act.put, List.setIfInBounds_toArray, List.set_cons_zero, List.set_cons_succ, Nat.reduceAdd])) | (apply skA; (case hi => (simp only [List.getElem?_toArray, List.getElem?_cons_zero, List.getElem?_cons_succ]; rfl)); (case hw => rfl); (case hs => kernel_rfl); (case hf => kernel_rfl); (case hr => kernel_rfl); (case hQ => exact fun _ _ _ h => h); (case hS => assumption); (try simp only [Act.put, List.setIfInBounds_toArray, List.set_cons_zero, List.set_cons_succ, Nat.reduceAdd])))
        change wpAnyH _ _ _ _ _ _ _ _ _
        refine wpAnyH_done (by kernel_rfl) ?_ _
        clear q0 qx
        obtain ⟨X, hX⟩ : ∃ q, Y.drew = q := ⟨_, rfl⟩
        rw [hX]
        have hd : Below Y.heap.size Y X := by rw [← hX]; exact hS0
        have hBX := bNext HY.out.1 hd
        have hpX := HY.out.2.2.2.1.but (but_of (X := (· = b4)) hd)
        have x2 := bBlk hd ly2 HY.out.2.2.2.2.1
        have x4 := bBlk hd ly4 HY.out.2.2.2.2.2.1
        rw [← HY.out.2.2.2.2.2.2.1] at x4
        have sX := hd.size
        have HX := Lib.hid (And.intro hBX (And.intro hpX (And.intro x2 x4)))
        clear hX hS0 hd hBX hpX x2 x4 c0Y
        go_wp2_with fail
        go_loopw [6, 8, 40] (fun s6 s8 s40 wr => ∃ (k : Nat) (f : Int) (y : WY) (mb : Bool) (Aw : Option Addr) (mw cw : Nat), s6 = .bool mb ∧ s8 = .int .i64 f ∧ s40 = .int .i64 k ∧ k ≤ m ∧ (-1 ≤ f ∧ f ≤ n ∧ (k : Int) ≤ f + 1) ∧ But X.heap.size (· = b4) X wr ∧ wr.heap[b4]? = some (.cells #[.slice Aw mw cw, .int .i64 y.total, .int .i64 y.over] 37) ∧ IvN wr b4 Aw mw cw y.ends ∧ okWY l.length k y ∧ stepW l wd tl f y mb (bs.drop k) = R) (fun _ _ s40 _ => m - (intOf s40).toNat)
        case atStart => exact ⟨0, -1, wy0, true, none, 0, 0, rfl, rfl, rfl, by omega, by omega, But.refl _ _ _, HX.out.2.2.2, ⟨⟨fun x hx => by simp [wy0] at hx, rfl, Sl.nil, Nat.le_refl _⟩, fun b o i e => (by cases e)⟩, okWY_zero _ _, by rw [List.drop_zero]; exact HR1.out⟩
        case round =>
          obtain ⟨k, f, y, mb, Aw, mw, cw, rfl, rfl, rfl, hk, hf, hbut, hw4, hiv, hok, hst⟩ := hrel
          obtain ⟨hBX, hpX, x2, -⟩ := HX.out
          have hwX : w.heap.size ≤ X.heap.size := hBX.size
          have hbw : Below w.heap.size w wr := hBX.trans (hbut.below hwX (fun k e => by omega))
          have hsw := hbut.size
          by_cases hlt : k < m
          · have hi1 : (k : Int) < (m : Int) := by omega
            obtain ⟨t, ht⟩ : ∃ t, bs[k]? = some t := ⟨_, List.getElem?_eq_getElem (by rw [HR.out.2.2]; exact hlt)⟩
            rw [drop_at ht, stepW] at hst
            obtain ⟨b', o', e', lb', hct⟩ := HY.out.2.2.2.2.2.2.2.1.entry ht
            cases e'
            have ct := (hbw.cell (p := ⟨bB, oB + k, none⟩) lB0).trans hct
            have x2r := hbut.blk (k := b2) (by omega) (fun e : b2 = b4 => by omega) x2
            have hpr := hpX.but hbut
            have lr := HY.out.2.2.2.2.2.2.2.2.next hbw
            have htw := HY.out.2.2.2.2.2.2.2.1.wide t (List.mem_of_getElem? ht)
            have hcon := contains_any t wr hpr.iv (Nat.le_refl _) (by omega)
            have hboxed := boxed_any (c := c) (wd := wd) (tl := tl) f t (by omega) wr lr
            have hmw : mw ≤ 1000 := by have := hiv.iv.len; have := hok.2.2.1; omega
            have hyt := hok.1
            have hyo := hok.2.1
            have hwith := fun U (hb : Below wr.heap.size wr U) => with_any (c := c) (wd := wd) (tl := tl) (y := y) f t (by omega) hwd U (lr.next hb) (hiv.iv.nxt hb) (by omega) (by omega) (by omega)
            unfold pgv at hboxed hwith
            unfold wyv at hwith
            obtain ⟨CT, hCT⟩ : ∃ q, decide (t ∈ plcs l) = q := ⟨_, rfl⟩
            obtain ⟨BX, hBX2⟩ : ∃ q, bx l f t = q := ⟨_, rfl⟩
            rw [hCT] at hcon
            rw [hBX2] at hboxed hst
            have l4r := (Array.getElem?_eq_some_iff.1 hw4).1
            have l2r := (Array.getElem?_eq_some_iff.1 x2r).1
            have HI := Lib.hid (And.intro hst (And.intro hbut (And.intro hiv (And.intro hok (And.intro hbw hCT)))))
            have HW4 := Lib.hid hw4
            have HX2 := Lib.hid x2r
            clear hst hbut hiv hok hbw hCT hBX2 hBX hpX x2 ht hct hpr lr hw4 x2r hyt hyo
            by_cases c1 : f < t
            · have hd1 : decide (t ≤ f) = false := decide_eq_false (by omega)
              have hn1 : ¬ t ≤ f := by omega
              go_wp2_with fail
              refine Calls.mono hcon ?_
              rintro e wr' ⟨rfl, rfl⟩
              clear hcon
              cases CT
              · have HR0 := Lib.hid (show R = none by rw [← HI.out.1, if_neg (by rintro ⟨-, h, -⟩; exact (show ¬ t ∈ plcs l by simpa using HI.out.2.2.2.2.2) h)])
                have HBY := Lib.hid HI.out.2.2.2.2.1
                have y4 := HW4.out
                obtain ⟨zo, hzo0⟩ : ∃ q, (#[.slice Aw mw cw, .int .i64 y.total, .int .i64 y.over] : Array Value) = q := ⟨_, rfl⟩
                have hzo : zo.size = 3 := by rw [← hzo0]; rfl
                rw [hzo0] at y4
                clear hzo0 hboxed hwith
                go_wp2_with (first
                  | (refine wpList_built rfl 37 #[] rfl (cs := #[.slice none 0 0, .int .i64 0, .int .i64 0]) (by simp only [List.map_toArray, List.map_nil]; exact built_wy0) ?_)
                  | (refine wpList_store_row rfl 37 (.tmp 4) (.tmp 60) rfl _ #[.slice none 0 0, .int .i64 0, .int .i64 0] rfl rfl _ zo y4 wys (by rw [hzo]; rfl) (by simp [Value.oneCell']) ?_)
                  | fail)
                generalize hX : World.setRow _ _ _ = X9
                have b9 : X9.heap[b4]? = some (.cells #[.slice none 0 0, .int .i64 0, .int .i64 0] 37) := by rw [← hX]; exact setRow_heap _ _ _ _ _ _ y4
                have hBX : Below w.heap.size w X9 := by rw [← hX]; exact bSetRow HBY.out (by omega) _
                clear hX
                have hld := run_loadVar_row (P := Try.prog) X9 _ _ 37 _ _ _ b9 Try.underlying37 rfl wys
                refine bodyPost_ret (by simp [results, Try.results27, Act.put, asAddr, Result.andThen, hld]; try rfl) rfl ?_
                exact ⟨none, 0, 0, by rw [HR0.out]; rfl, by rw [HR0.out]; exact ⟨fun x hx => by simp [wkY, wy0] at hx, rfl, Sl.nil, Nat.le_refl _⟩, fun b o i e => (by cases e), hBX⟩
              · have x2r := HX2.out
                go_wp2_with (first | (refine wpList_load_row_g (by simp [Region.wanted, yielded, Act.put]) 59 (.tmp 2) rfl _ rfl _ #[.slice A n c, .int .i64 wd, .int .i64 tl] (0, 0) _ x2r Try.underlying59 rfl pgi ?_) | fail)
                refine Calls.mono hboxed ?_
                rintro e U1 ⟨rfl, hb1⟩
                clear hboxed x2r
                cases BX
                · have HR0 := Lib.hid (show R = none by rw [← HI.out.1, if_neg (by rintro ⟨-, -, h⟩; cases h)])
                  have HBY := Lib.hid (bNext HI.out.2.2.2.2.1 hb1)
                  have y4 := bBlk hb1 l4r HW4.out
                  obtain ⟨zo, hzo0⟩ : ∃ q, (#[.slice Aw mw cw, .int .i64 y.total, .int .i64 y.over] : Array Value) = q := ⟨_, rfl⟩
                  have hzo : zo.size = 3 := by rw [← hzo0]; rfl
                  rw [hzo0] at y4
                  clear hzo0 hwith hb1
                  go_wp2_with (first
                    | (refine wpList_built rfl 37 #[] rfl (cs := #[.slice none 0 0, .int .i64 0, .int .i64 0]) (by simp only [List.map_toArray, List.map_nil]; exact built_wy0) ?_)
                    | (refine wpList_store_row rfl 37 (.tmp 4) (.tmp 60) rfl _ #[.slice none 0 0, .int .i64 0, .int .i64 0] rfl rfl _ zo y4 wys (by rw [hzo]; rfl) (by simp [Value.oneCell']) ?_)
                    | fail)
                  generalize hX : World.setRow _ _ _ = X9
                  have b9 : X9.heap[b4]? = some (.cells #[.slice none 0 0, .int .i64 0, .int .i64 0] 37) := by rw [← hX]; exact setRow_heap _ _ _ _ _ _ y4
                  have hBX : Below w.heap.size w X9 := by rw [← hX]; exact bSetRow HBY.out (by omega) _
                  clear hX
                  have hld := run_loadVar_row (P := Try.prog) X9 _ _ 37 _ _ _ b9 Try.underlying37 rfl wys
                  refine bodyPost_ret (by simp [results, Try.results27, Act.put, asAddr, Result.andThen, hld]; try rfl) rfl ?_
                  exact ⟨none, 0, 0, by rw [HR0.out]; rfl, by rw [HR0.out]; exact ⟨fun x hx => by simp [wkY, wy0] at hx, rfl, Sl.nil, Nat.le_refl _⟩, fun b o i e => (by cases e), hBX⟩
                · have hw41 := bBlk hb1 l4r HW4.out
                  have x21 := bBlk hb1 l2r HX2.out
                  have hi3 : (Try.prog.info? 37).map (·.size) = some (#[.slice Aw mw cw, .int .i64 y.total, .int .i64 y.over] : Array Value).size := wys
                  have hwi := hwith U1 hb1
                  have hwok := fun h1 h2 => withW_ok (l := l) (wd := wd) (tl := tl) (f := f) (t := t) HI.out.2.2.2.1 ⟨h1, h2⟩
                  obtain ⟨WW, hWW⟩ : ∃ q, withW l wd tl y f t = q := ⟨_, rfl⟩
                  obtain ⟨MY, hMY⟩ : ∃ q, (lineD l wd tl f t).may = q := ⟨_, rfl⟩
                  rw [hWW, hMY] at hwi
                  simp only [hWW] at hwok
                  have hmt : t ∈ plcs l := by simpa using HI.out.2.2.2.2.2
                  have hst : stepW l wd tl t WW (mb && MY) (bs.drop (k + 1)) = R := by rw [← hWW, ← hMY, ← HI.out.1, if_pos ⟨c1, hmt, rfl⟩]
                  have htr := plcs_rng hmt
                  have wyii : ∀ A2 c2, (Try.prog.info? 37).map (·.size) = some (#[.slice A2 WW.ends.length c2, .int .i64 WW.total, .int .i64 WW.over] : Array Value).size := fun _ _ => wys
                  have hyz := wyZ
                  have HJ := Lib.hid (And.intro hst (And.intro hwok hb1))
                  clear hwith hst hwok hb1 hWW hMY hmt
                  go_upto_region 11 with (fail)
                  refine wp_region_lit ?_
                  refine wpList_load_row rfl 59 (.tmp 2) rfl _ rfl _ #[.slice A n c, .int .i64 wd, .int .i64 tl] (0, 0) _ x21 Try.underlying59 rfl pgi ?_
                  (try simp only [Act.put, List.setIfInBounds_toArray, List.set_cons_zero, List.set_cons_succ])
                  refine wpList_load_row rfl 37 (.tmp 4) rfl _ rfl _ #[.slice Aw mw cw, .int .i64 y.total, .int .i64 y.over] (0, 0) _ hw41 Try.underlying37 rfl hi3 ?_
                  (try simp only [Act.put, List.setIfInBounds_toArray, List.set_cons_zero, List.set_cons_succ])
                  clear hi3 x21
                  go_wp2_with fail
                  refine Calls.mono hwi ?_
                  rintro e U2 ⟨A2, c2, rfl, hown2, hb2⟩
                  unfold wyv
                  clear hwi
                  obtain ⟨U3, hU3, y11, bU3⟩ := newRow U2 wyz #[.slice A2 WW.ends.length c2, .int .i64 WW.total, .int .i64 WW.over] 37
                  go_upto_region 12 with (first
                    | (refine wpList_new rfl hyz rfl ?_)
                    | (refine wpList_store_row rfl 37 (.tmp 11) (.tmp 67) rfl _ #[.slice A2 WW.ends.length c2, .int .i64 WW.total, .int .i64 WW.over] rfl rfl _ wyz (heap_alloc_new _ _) (wyii _ _) rfl (by simp [Value.oneCell']) ?_)
                    | fail)
                  try rw [hU3]
                  clear hU3 hyz
                  have l41 : b4 < U1.heap.size := Nat.lt_of_lt_of_le l4r HJ.out.2.2.size
                  have hb13 : Below U1.heap.size U1 U3 := bNext hb2 bU3
                  have w43 := bBlk hb13 l41 hw41
                  have hwide : ∀ z ∈ WW.ends, -9223372036854775808 ≤ z ∧ z ≤ 9223372036854775807 := fun z hz => by have := (HJ.out.2.1 (by omega) (by omega)).2.2.2 z hz; omega
                  have hiv2 : IvN U3 b4 A2 WW.ends.length c2 WW.ends := (IvN.own (F := b4) (Z := U1) rfl hown2 l41 hwide).but (but_of bU3)
                  have hbr3 : But wr.heap.size (· = b4) wr U3 := but_of (bNext HJ.out.2.2 hb13)
                  obtain ⟨g11, hg11⟩ : ∃ q, U2.heap.size = q := ⟨_, rfl⟩
                  rw [hg11] at y11
                  try rw [hg11]
                  obtain ⟨U4, hU4⟩ : ∃ q, U3.setRow b4 #[.slice A2 WW.ends.length c2, .int .i64 WW.total, .int .i64 WW.over] = q := ⟨_, rfl⟩
                  have z4 : U4.heap[b4]? = some (.cells #[.slice A2 WW.ends.length c2, .int .i64 WW.total, .int .i64 WW.over] 37) := by rw [← hU4]; exact setRow_heap _ _ _ _ _ _ w43
                  have hb34 : But U3.heap.size (· = b4) U3 U4 := by
                    rw [← hU4]
                    refine ⟨rfl, rfl, rfl, (bSetRow (Below.refl b4 U3) (Nat.le_refl _) _).size, fun k hk hx => setRow_other _ _ _ _ hx⟩
                  have hivZ := hiv2.but hb34
                  have s13 := hbr3.size
                  have hbut4 : But X.heap.size (· = b4) X U4 := (HI.out.2.1.trans (but_less hbr3 hsw)).trans (but_less hb34 (by omega))
                  have HL := Lib.hid (And.intro z4 (And.intro hivZ hbut4))
                  clear hb34 hivZ hbut4 hbr3 hiv2 hwide hb13 bU3 z4 hown2 hb2 hg11 hw41
                  cases mb
                  · go_wp2_with (first
                      | (refine wpList_load_row rfl 37 (.tmp 11) rfl _ rfl _ #[.slice A2 WW.ends.length c2, .int .i64 WW.total, .int .i64 WW.over] (0, 0) _ y11 Try.underlying37 rfl (wyii _ _) ?_)
                      | (refine wpList_store_row rfl 37 (.tmp 4) (.tmp 69) rfl _ #[.slice A2 WW.ends.length c2, .int .i64 WW.total, .int .i64 WW.over] rfl rfl _ #[.slice Aw mw cw, .int .i64 y.total, .int .i64 y.over] w43 (wyii _ _) rfl (by simp [Value.oneCell']) ?_)
                      | fail)
                    try rw [hU4]
                    clear hU4
                    go_roundw
                    case rel => exact ⟨k + 1, t, WW, false && MY, A2, WW.ends.length, c2, rfl, rfl, by go_num, by omega, by omega, HL.out.2.2, HL.out.1, HL.out.2.1, HJ.out.2.1 (by omega) (by omega), HJ.out.1⟩
                    case measure => simp [intOf]; omega
                  · go_wp2_with (first
                      | (refine wpList_load_row rfl 37 (.tmp 11) rfl _ rfl _ #[.slice A2 WW.ends.length c2, .int .i64 WW.total, .int .i64 WW.over] (0, 0) _ y11 Try.underlying37 rfl (wyii _ _) ?_)
                      | (refine wpList_store_row rfl 37 (.tmp 4) (.tmp 69) rfl _ #[.slice A2 WW.ends.length c2, .int .i64 WW.total, .int .i64 WW.over] rfl rfl _ #[.slice Aw mw cw, .int .i64 y.total, .int .i64 y.over] w43 (wyii _ _) rfl (by simp [Value.oneCell']) ?_)
                      | fail)
                    try rw [hU4]
                    clear hU4
                    go_roundw
                    case rel => exact ⟨k + 1, t, WW, true && MY, A2, WW.ends.length, c2, rfl, rfl, by go_num, by omega, by omega, HL.out.2.2, HL.out.1, HL.out.2.1, HJ.out.2.1 (by omega) (by omega), HJ.out.1⟩
                    case measure => simp [intOf]; omega
            · have hst : R = none := by rw [← HI.out.1, if_neg (by rintro ⟨h, -, -⟩; exact c1 h)]
              have HR0 := Lib.hid hst
              have hd1 : decide (t ≤ f) = true := decide_eq_true (by omega)
              have hn1 : t ≤ f := by omega
              have HBY := Lib.hid HI.out.2.2.2.2.1
              have y4 := HW4.out
              obtain ⟨zo, hzo0⟩ : ∃ q, (#[.slice Aw mw cw, .int .i64 y.total, .int .i64 y.over] : Array Value) = q := ⟨_, rfl⟩
              have hzo : zo.size = 3 := by rw [← hzo0]; rfl
              rw [hzo0] at y4
              clear hzo0 hboxed hwith hcon hst
              go_wp2_with (first
                | (refine wpList_built rfl 37 #[] rfl (cs := #[.slice none 0 0, .int .i64 0, .int .i64 0]) (by simp only [List.map_toArray, List.map_nil]; exact built_wy0) ?_)
                | (refine wpList_store_row rfl 37 (.tmp 4) (.tmp 60) rfl _ #[.slice none 0 0, .int .i64 0, .int .i64 0] rfl rfl _ zo y4 wys (by rw [hzo]; rfl) (by simp [Value.oneCell']) ?_)
                | fail)
              generalize hX : World.setRow _ _ _ = X9
              have b9 : X9.heap[b4]? = some (.cells #[.slice none 0 0, .int .i64 0, .int .i64 0] 37) := by rw [← hX]; exact setRow_heap _ _ _ _ _ _ y4
              have hBX : Below w.heap.size w X9 := by rw [← hX]; exact bSetRow HBY.out (by omega) _
              clear hX
              have hld := run_loadVar_row (P := Try.prog) X9 _ _ 37 _ _ _ b9 Try.underlying37 rfl wys
              refine bodyPost_ret (by simp [results, Try.results27, Act.put, asAddr, Result.andThen, hld]; try rfl) rfl ?_
              exact ⟨none, 0, 0, by rw [HR0.out]; rfl, by rw [HR0.out]; exact ⟨fun x hx => by simp [wkY, wy0] at hx, rfl, Sl.nil, Nat.le_refl _⟩, fun b o i e => (by cases e), hBX⟩
          · obtain rfl : k = m := by omega
            have hi1 : ¬ (k : Int) < (k : Int) := by omega
            have hdn : bs.drop k = [] := List.drop_eq_nil_of_le (by rw [HR.out.2.2]; exact Nat.le_refl _)
            rw [hdn, stepW] at hst
            obtain rfl : R = some (y, mb) := hst.symm
            have hi3 : (Try.prog.info? 37).map (·.size) = some (#[.slice Aw mw cw, .int .i64 y.total, .int .i64 y.over] : Array Value).size := wys
            have HF := Lib.hid (And.intro hbw hiv)
            clear hbw hiv hok hst hdn hbut hBX hpX x2
            go_wp2_with (first
              | (refine wpList_load_row rfl 37 (.tmp 4) rfl _ rfl _ #[.slice Aw mw cw, .int .i64 y.total, .int .i64 y.over] (0, 0) _ hw4 Try.underlying37 rfl hi3 ?_)
              | (refine wpList_store_row rfl 37 (.tmp 4) (.tmp 76) rfl _ #[.slice Aw mw cw, .int .i64 y.total, .int .i64 y.over] rfl rfl _ #[.slice Aw mw cw, .int .i64 y.total, .int .i64 y.over] hw4 hi3 rfl (by simp [Value.oneCell']) ?_)
              | fail)
            generalize hX9 : World.setRow _ _ _ = X9
            have b9 : X9.heap[b4]? = some (.cells #[.slice Aw mw cw, .int .i64 y.total, .int .i64 y.over] 37) := by rw [← hX9]; exact setRow_heap _ _ _ _ _ _ hw4
            have hBX : Below w.heap.size w X9 := by rw [← hX9]; exact bSetRow HF.out.1 (by omega) _
            have hivX := HF.out.2.iv.set (fun b o i e => HF.out.2.far b o i e) _ hX9
            clear hX9
            have hld := run_loadVar_row (P := Try.prog) X9 _ _ 37 _ _ _ b9 Try.underlying37 rfl hi3
            refine bodyPost_ret (by simp [results, Try.results27, Act.put, asAddr, Result.andThen, hld]; try rfl) rfl ?_
            exact ⟨Aw, mw, cw, rfl, hivX, fun b o i e => by have := HF.out.2.far b o i e; omega, hBX⟩
      · have HR0 := Lib.hid (show R = none by rw [← HR.out.1, if_pos (.inr (by rw [hlast]; intro e; injection e with e; exact hxn e))])
        clear hx hlast
        go_upto_region 2 with (fail)
        let S : World → Prop := fun w' => Below Y.heap.size Y w'
        have hS0 : S Y.drew := (Below.refl _ _).drew
        have q0 : ∀ w', S w' → w'.cell? ⟨b2, 0, none⟩ = some (.slice A n c) := fun w' h => (Below.cell (show Below Y.heap.size Y w' from h) (p := ⟨b2, 0, none⟩) ly2).trans c0Y
        have qx : ∀ w', S w' → w'.cell? ⟨bB, oB + (m - 1), none⟩ = some (.int .i64 x) := fun w' h => (Below.cell (show Below Y.heap.size Y w' from h) (p := ⟨bB, oB + (m - 1), none⟩) lB).trans hcx
        clear hcx
        refine wp_region_held (S := S) (by kernel_rfl) ?_
        change wpAnyH _ _ _ _ S _ _ _ Y.drew
        change At 0 _
        iterate 21 (first | (apply tkA; (case hi => (simp only [List.getElem?_toArray, List.getElem?_cons_zero, List.getElem?_cons_succ]; rfl)); (case hw => rfl); (case hy => (intro w' hSw; have h1 := q0 w' hSw; have h2 := qx w' hSw; (try simp only [S] at hSw); go_simp; (try with_reducible rfl))); (case hs => kernel_rfl); (case hf => kernel_rfl); (case hr => kernel_rfl); (case hQ => exact fun _ _ _ h => h); (case hS => assumption); (try simp only [Act.put, List.setIfInBounds_toArray, List.set_cons_zero, List.set_cons_succ, Nat.reduceAdd])) | (apply skA; (case hi => (simp only [List.getElem?_toArray, List.getElem?_cons_zero, List.getElem?_cons_succ]; rfl)); (case hw => rfl); (case hs => kernel_rfl); (case hf => kernel_rfl); (case hr => kernel_rfl); (case hQ => exact fun _ _ _ h => h); (case hS => assumption); (try simp only [Act.put, List.setIfInBounds_toArray, List.set_cons_zero, List.set_cons_succ, Nat.reduceAdd])))
        change wpAnyH _ _ _ _ _ _ _ _ _
        refine wpAnyH_done (by kernel_rfl) ?_ _
        clear q0 qx
        have HBY := Lib.hid (bNext HY.out.1 (show Below Y.heap.size Y Y.drew from hS0))
        have y4 := bBlk (show Below Y.heap.size Y Y.drew from hS0) ly4 HY.out.2.2.2.2.2.1
        obtain ⟨zo, hzo0⟩ : ∃ q, zw = q := ⟨_, rfl⟩
        have hzo : zo.size = 3 := by rw [← hzo0]; exact hz3
        rw [hzo0] at y4
        clear hS0 hzo0
        go_wp2_with (first
          | (refine wpList_built rfl 37 #[] rfl (cs := #[.slice none 0 0, .int .i64 0, .int .i64 0]) (by simp only [List.map_toArray, List.map_nil]; exact built_wy0) ?_)
          | (refine wpList_store_row rfl 37 (.tmp 4) (.tmp 37) rfl _ #[.slice none 0 0, .int .i64 0, .int .i64 0] rfl rfl _ zo y4 wys (by rw [hzo]; rfl) (by simp [Value.oneCell']) ?_)
          | fail)
        generalize hX : World.setRow _ _ _ = X9
        have b9 : X9.heap[b4]? = some (.cells #[.slice none 0 0, .int .i64 0, .int .i64 0] 37) := by rw [← hX]; exact setRow_heap _ _ _ _ _ _ y4
        have hBX : Below w.heap.size w X9 := by rw [← hX]; exact bSetRow HBY.out (by omega) _
        clear hX
        have hld := run_loadVar_row (P := Try.prog) X9 _ _ 37 _ _ _ b9 Try.underlying37 rfl wys
        refine bodyPost_ret (by simp [results, Try.results27, Act.put, asAddr, Result.andThen, hld]; try rfl) rfl ?_
        exact ⟨none, 0, 0, by rw [HR0.out]; rfl, by rw [HR0.out]; exact ⟨fun x hx => by simp [wkY, wy0] at hx, rfl, Sl.nil, Nat.le_refl _⟩, fun b o i e => (by cases e), hBX⟩
end Go.Proofs.Ytnojikbecohhfaa
