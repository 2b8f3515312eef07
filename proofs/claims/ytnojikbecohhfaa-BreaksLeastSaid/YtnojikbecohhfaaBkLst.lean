/- Room for the breaks of any items; the walks over the reference's Breaks (for as many items as there may be) and over lesser; in plain Lean: no way is less than the best one. -/
import Derived.Test.YtnojikbecohhfaaBkLaw3
import Derived.Test.YtnojikbecohhfaaBkLines
import Derived.SizedLaws
namespace Go.Proofs.Ytnojikbecohhfaa
set_option linter.unusedSimpArgs false
set_option linter.unusedVariables false
open Go.RowKit Go.ChangeShapes Go.WideShapes Go.Sort

/-! ### room -/
theorem slice_room {H : Type} {enc : TypeId × Value → H} {P : Program} {W : World} {A : Option Addr} {n c : Nat} {t e : TypeId} {d : DataW H} {p : List MemPlace} {ts : List TypeId} {ds : List (DataW H)}
    (ht : P.underlying t = some (.slice e)) (h : DataW.Trod enc P W 0 (fun _ => true) true t (.slice A n c) d p) (hz : (DataW.weightsEach P (t :: ts) (d :: ds)).all (· ≤ reachBytes) = true) : n * P.bytesOf e ≤ reachBytes := by
  obtain ⟨fuel, hf⟩ := h
  rcases DataW.trod_slice ht hf with ⟨e1, e2⟩ | ⟨a, len, cap, elems, rest, m, -, e1, e2, -, -, -, hl, -⟩
  · simp only [Value.cells, List.cons.injEq, and_true] at e1
    injection e1 with _ e1 _
    subst e1
    omega
  · simp only [Value.cells, List.cons.injEq, and_true] at e1
    injection e1 with _ e1 _
    subst e1
    injection e2 with e2 _
    subst e2
    have := sized_slice (j := 0) hz rfl rfl ht
    rw [List.length_map, hl] at this
    exact Nat.le_trans (Nat.mul_le_mul_right _ (Nat.le_add_right _ _)) this
theorem items_bytes : Try.prog.bytesOf 53 = 56 := by kernel_rfl

/-! ### walks -/
set_option maxHeartbeats 2000000 in
set_option maxRecDepth 100000 in
theorem rbreaks_big {A : Option Addr} {n c : Nat} {l : List It} (hm : n ≤ 10000000000000) {w : World} (h : Sl w w.heap.size 6 A n (encs l)) :
    Calls Try.prog 18 #[.slice A n c] w (BrkPost l w) := by
  have hl := its_len h
  have hm' : (n : Int) ≤ 10000000000000 := by omega
  go_enter Try.func18, Try.ntmps18
  go_wp2
  go_loopw [3, 4] (fun v i wr => ∃ k : Nat, i = .int .i64 k ∧ k ≤ n ∧ wr.ownsRow w.heap.size 3 1 v (brksTo l k).length (ints (brksTo l k)) ∧ Below w.heap.size w wr) (fun _ i _ => n - (intOf i).toNat)
  case atStart => exact ⟨0, rfl, by omega, World.ownsRow_nil _ _ _ _, Below.refl _ _⟩
  case round =>
    obtain ⟨k, rfl, hk, hown, hbr⟩ := hrel
    have hsr := h.below hbr
    have hzr := hbr.size
    have hlen := brksTo_len l k
    by_cases hlt : k < n
    · obtain ⟨x, hx⟩ := get_some (l := l) (k := k) (by omega)
      obtain ⟨b, o, rfl, hb, c0, c1, c2, c3, c4, c5⟩ := its_cells hsr hx
      have hbl : b < wr.heap.size := by omega
      by_cases k3 : x.kind = 3
      · rw [k3] at c0
        have HM := Lib.hid (mayB_pen hx k3)
        go_wp2_with (first | (go_at_call 32; refine (rplain_any _ _).mono ?_; rintro e w' ⟨rfl, rfl⟩) | (at_builtin; refine wpList_app _ rfl (.tmp 47) (.tmp 49) 25 rfl Try.underlying25 elemI64 rfl (hown.alloc _) rfl (Sl.new (n := 1) (heap_alloc_new _ _) rfl) (by simp [Value.oneCell']) (by simp only [maxLen]; omega) (by omega) (by simp; omega) ?_; intro A4 c4 w4 hown4 hg4 hb4 hat4))
        go_roundw
        case rel =>
          refine ⟨k + 1, by go_num, by omega, ?_, ?_⟩
          · rw [brksTo_next, if_pos HM.out, ints_append, List.length_append]; exact hown4
          · exact ((hbr.alloc (by omega) _).trans hb4)
        case measure => simp [intOf]; omega
      · by_cases k2 : x.kind = 2
        · rw [k2] at c0
          by_cases hp : 0 < pl x.y
          · by_cases k0 : k = 0
            · have HM := Lib.hid (show mayB l k = false by subst k0; exact mayB_zero hx k3)
              have e2 : ¬ (0 : Int) < (k : Int) := by omega
              clear k0
              have HM := Lib.hid (HM.out)
              go_wp2_with (go_at_call 32; refine (rplain_any _ _).mono ?_; rintro e w' ⟨rfl, rfl⟩)
              go_roundw
              case rel =>
                refine ⟨k + 1, by go_num, by omega, ?_, ?_⟩
                · rw [brksTo_next, if_neg (by rw [HM.out]; simp), List.append_nil]; exact hown
                · exact hbr
              case measure => simp [intOf]; omega
            · obtain ⟨j, hj⟩ : ∃ j, k = j + 1 := ⟨k - 1, by omega⟩
              obtain ⟨y, hy⟩ := get_some (l := l) (k := j) (by omega)
              obtain ⟨b', o', he, -, d0, -⟩ := its_cells hsr hy
              injection he with he; injection he with he1 he2; subst he1 he2
              rw [show j = k - 1 from by omega] at d0
              have e2 : (0 : Int) < (k : Int) := by omega
              by_cases q1 : y.kind = 1
              · have HM := Lib.hid (show mayB l k = true by subst hj; exact mayB_yes hx k2 hp hy q1)
                rw [q1] at d0
                clear hj
                have HM := Lib.hid (HM.out)
                go_wp2_with (first | (go_at_call 32; refine (rplain_any _ _).mono ?_; rintro e w' ⟨rfl, rfl⟩) | (at_builtin; refine wpList_app _ rfl (.tmp 47) (.tmp 49) 25 rfl Try.underlying25 elemI64 rfl (hown.alloc _) rfl (Sl.new (n := 1) (heap_alloc_new _ _) rfl) (by simp [Value.oneCell']) (by simp only [maxLen]; omega) (by omega) (by simp; omega) ?_; intro A4 c4 w4 hown4 hg4 hb4 hat4))
                go_roundw
                case rel =>
                  refine ⟨k + 1, by go_num, by omega, ?_, ?_⟩
                  · rw [brksTo_next, if_pos HM.out, ints_append, List.length_append]; exact hown4
                  · exact ((hbr.alloc (by omega) _).trans hb4)
                case measure => simp [intOf]; omega
              · have HM := Lib.hid (show mayB l k = false by subst hj; exact mayB_no hx k3 hy q1)
                generalize y.kind = q at *
                clear hj
                have HM := Lib.hid (HM.out)
                go_wp2_with (go_at_call 32; refine (rplain_any _ _).mono ?_; rintro e w' ⟨rfl, rfl⟩)
                go_roundw
                case rel =>
                  refine ⟨k + 1, by go_num, by omega, ?_, ?_⟩
                  · rw [brksTo_next, if_neg (by rw [HM.out]; simp), List.append_nil]; exact hown
                  · exact hbr
                case measure => simp [intOf]; omega
          · skip
            have HM := Lib.hid (mayB_stiff hx k3 hp)
            go_wp2_with (go_at_call 32; refine (rplain_any _ _).mono ?_; rintro e w' ⟨rfl, rfl⟩)
            go_roundw
            case rel =>
              refine ⟨k + 1, by go_num, by omega, ?_, ?_⟩
              · rw [brksTo_next, if_neg (by rw [HM.out]; simp), List.append_nil]; exact hown
              · exact hbr
            case measure => simp [intOf]; omega
        · have HM := Lib.hid (mayB_other hx k3 k2)
          generalize x.kind = q at *
          have HM := Lib.hid (HM.out)
          go_wp2_with (go_at_call 32; refine (rplain_any _ _).mono ?_; rintro e w' ⟨rfl, rfl⟩)
          go_roundw
          case rel =>
            refine ⟨k + 1, by go_num, by omega, ?_, ?_⟩
            · rw [brksTo_next, if_neg (by rw [HM.out]; simp), List.append_nil]; exact hown
            · exact hbr
          case measure => simp [intOf]; omega
    · obtain rfl : k = n := by omega
      obtain ⟨A3, c3, rfl, hcp⟩ := own_form hown
      go_wp2_with (at_builtin; refine wpList_app _ rfl (.tmp 51) (.tmp 54) 25 rfl Try.underlying25 elemI64 rfl (hown.alloc _) rfl (Sl.new (n := 1) (heap_alloc_new _ _) rfl) (by simp [Value.oneCell']) (by simp only [maxLen]; omega) (by omega) (by simp; omega) ?_; intro A4 c4 w4 hown4 hg4 hb4 hat4)
      go_ret
      refine ⟨A4, c4, by rw [brks_len, hl]; rfl, ?_, (hbr.alloc (by omega) _).trans hb4⟩
      rw [brks_len, brks, hl, ints_append]; exact hown4

/-- which list is the lesser one, where neither is the other's beginning -/
theorem lt_at {a b : List Int} {k : Nat} {x y : Int} (h : ∀ j : Nat, j < k → a[j]? = b[j]?) (hx : a[k]? = some x) (hy : b[k]? = some y) (hxy : x < y) : a < b := by
  induction k generalizing a b with
  | zero =>
    cases a with
    | nil => cases hx
    | cons u a =>
      cases b with
      | nil => cases hy
      | cons v b =>
        cases hx; cases hy
        exact List.cons_lt_cons_iff.2 (.inl hxy)
  | succ k ih =>
    have h0 := h 0 (by omega)
    cases a with
    | nil => cases hx
    | cons u a =>
      cases b with
      | nil => cases hy
      | cons v b =>
        cases h0
        exact List.cons_lt_cons_iff.2 (.inr ⟨rfl, ih (fun j hj => by have := h (j + 1) (by omega); simpa using this) (by simpa using hx) (by simpa using hy)⟩)
def LessP (w : World) (la lb : List Int) (e : Ending) (w' : World) : Prop := ∃ r, e = .returned (.bool r) ∧ (r = true → la < lb) ∧ Below w.heap.size w w'
set_option maxHeartbeats 8000000 in
set_option maxRecDepth 100000 in
theorem lesser_any {A A' : Option Addr} {n m c c' : Nat} {la lb : List Int} (w : World) (ha : IvAt w w.heap.size A n c la) (hb : IvAt w w.heap.size A' m c' lb) (hn : n ≤ 1000000) (hm : m ≤ 1000000) :
    Calls Try.prog 20 #[.slice A n c, .slice A' m c'] w (LessP w la lb) := by
  have HA := Lib.hid ha
  have HB := Lib.hid hb
  have HN := Lib.hid (And.intro ha.len hb.len)
  clear ha hb
  go_enter Try.func20, Try.ntmps20
  go_wp2_with fail
  go_loopw [5] (fun i wr => ∃ k : Nat, k ≤ n ∧ k ≤ m ∧ i = .int .i64 k ∧ Below w.heap.size w wr ∧ (∀ j : Nat, j < k → la[j]? = lb[j]?)) (fun i _ => n - (intOf i).toNat)
  case atStart => exact ⟨0, by omega, by omega, rfl, Below.refl _ _, fun j hj => absurd hj (by omega)⟩
  case round =>
    obtain ⟨k, hk, hkm, rfl, hBr, hne⟩ := hrel
    by_cases hlt : k < n
    · have hi1 : (k : Int) < (n : Int) := by omega
      by_cases hltm : k < m
      · obtain ⟨x, hx⟩ : ∃ x, la[k]? = some x := ⟨_, List.getElem?_eq_getElem (by rw [HN.out.1]; exact hlt)⟩
        obtain ⟨y, hy⟩ : ∃ y, lb[k]? = some y := ⟨_, List.getElem?_eq_getElem (by rw [HN.out.2]; exact hltm)⟩
        obtain ⟨b, o, rfl, hbB, hxr⟩ := HA.out.entry hx
        obtain ⟨b', o', rfl, hbB', hyr⟩ := HB.out.entry hy
        have hi2 : (k : Int) < (m : Int) := by omega
        have hxr1 := (hBr.cell (p := ⟨b, o + k, none⟩) hbB).trans hxr
        have hyr1 := (hBr.cell (p := ⟨b', o' + k, none⟩) hbB').trans hyr
        have HX := Lib.hid (And.intro hx (And.intro hy (And.intro hne hBr)))
        clear hx hy hne hxr hyr hBr
        by_cases hxy : x = y
        · subst hxy
          go_upto_region 4 with (fail)
          go_quiet (fail)
          obtain ⟨V, hV⟩ : ∃ q, wr.drewN nq = q := ⟨_, rfl⟩
          have hbV : Below wr.heap.size wr V := by rw [← hV]; exact bDrewN (Below.refl _ _) nq
          rw [hV]
          clear hV
          obtain ⟨hx, hy, hne, hBr⟩ := HX.out
          have HR := Lib.hid (And.intro hx (And.intro hy (And.intro hne (bNext hBr hbV))))
          clear hx hy hne hBr HX hxr1 hyr1 hbV
          go_wp2_with fail
          go_roundw
          case rel => exact ⟨k + 1, by omega, by omega, by go_num, HR.out.2.2.2, fun j hj => by
            rcases Nat.lt_or_ge j k with h | h
            · exact HR.out.2.2.1 j h
            · obtain rfl : j = k := by omega
              rw [HR.out.1, HR.out.2.1]⟩
          case measure => simp [intOf]; omega
        · go_upto_region 4 with (fail)
          go_quiet (fail)
          obtain ⟨V, hV⟩ : ∃ q, wr.drewN nq = q := ⟨_, rfl⟩
          have hbV : Below wr.heap.size wr V := by rw [← hV]; exact bDrewN (Below.refl _ _) nq
          rw [hV]
          clear hV
          have hxr2 := (hbV.cell (p := ⟨b, o + k, none⟩) (by have := HX.out.2.2.2.size; show b < _; omega)).trans hxr1
          have hyr2 := (hbV.cell (p := ⟨b', o' + k, none⟩) (by have := HX.out.2.2.2.size; show b' < _; omega)).trans hyr1
          have HB1 := Lib.hid (bNext HX.out.2.2.2 hbV)
          clear hxr1 hyr1 hbV
          go_upto_region 5 with (fail)
          go_quiet (fail)
          obtain ⟨V2, hV⟩ : ∃ q, V.drewN nq = q := ⟨_, rfl⟩
          have hbV : Below V.heap.size V V2 := by rw [← hV]; exact bDrewN (Below.refl _ _) nq
          rw [hV]
          clear hV
          have HB2 := Lib.hid (bNext HB1.out hbV)
          clear hxr2 hyr2 hbV
          by_cases hxl : x < y
          · go_wp2_with fail
            go_ret
            exact ⟨true, ret_bool (by simp; omega), fun _ => lt_at HX.out.2.2.1 HX.out.1 HX.out.2.1 hxl, HB2.out⟩
          · go_wp2_with fail
            go_ret
            exact ⟨false, ret_bool (by simp; omega), fun h => (by cases h), HB2.out⟩
      · obtain rfl : k = m := by omega
        have hi2 : ¬ (k : Int) < (k : Int) := by omega
        have HR := Lib.hid hBr
        clear hne hBr
        go_wp2_with fail
        go_ret
        exact ⟨false, rfl, fun h => (by cases h), HR.out⟩
    · obtain rfl : k = n := by omega
      have hi1 : ¬ (k : Int) < (k : Int) := by omega
      have HR := Lib.hid hBr
      clear hne hBr
      go_wp2_with fail
      go_ret
      exact ⟨false, rfl, fun h => (by cases h), HR.out⟩

/-! ### in plain Lean -/
theorem stepW_ends {l : List It} {wd tl : Int} : ∀ (es : List Int) (f : Int) (y x : WY) (m mb : Bool), stepW l wd tl f y m es = some (x, mb) → x.ends = y.ends ++ es
  | [], f, y, x, m, mb, h => by
    rw [stepW] at h
    injection h with h
    injection h with h1 h2
    rw [← h1, List.append_nil]
  | e :: es, f, y, x, m, mb, h => by
    rw [stepW] at h
    split at h
    · rw [stepW_ends es _ _ _ _ _ h]
      show (y.ends ++ [e]) ++ es = _
      rw [List.append_assoc]
      rfl
    · cases h
theorem walkP_ends {l : List It} {wd tl : Int} {es : List Int} {x : WY} {mb : Bool} (h : walkP l wd tl es = some (x, mb)) : x.ends = es := by
  unfold walkP at h
  split at h
  · cases h
  · have := stepW_ends es _ _ _ _ _ h
    exact this
/-- no way is less than the best one -/
theorem least {l : List It} {wd tl : Int} (hn : l.length ≤ 600) (hb : bx l (-1) l.length = true) : ∃ mb, walkP l wd tl (bestP l wd tl).ends = some (bestP l wd tl, mb) ∧
    ∀ E x mx, walkP l wd tl E = some (x, mx) → x.ends = E ∧ (mx = true → mb = true) ∧ (mx = mb → leW (bestP l wd tl) x) := by
  obtain ⟨mb, h1, h2⟩ := best_walkP (wd := wd) (tl := tl) hn hb
  refine ⟨mb, h1, fun E x mx h => ⟨walkP_ends h, fun hm => ?_, fun hm => ?_⟩⟩
  · exact h2.2 (srch_some (walkP_path h (fun _ => hm)))
  · cases mb with
    | true =>
      obtain ⟨y, hy, hle⟩ := srch_least (walkP_path (all := false) h (fun _ => hm))
      rw [best_of_srch hn hb hy]
      exact hle
    | false =>
      obtain ⟨y, hy, hle⟩ := srch_least (walkP_path (all := true) h (fun h => by cases h))
      have hno : srch l wd tl false = none := by
        cases hs : srch l wd tl false with
        | none => rfl
        | some z => have := h2.2 (by rw [hs]; rfl); cases this
      have : bestP l wd tl = y := by
        unfold bestP
        rw [if_neg (by rw [hb]; simp; omega), hno, hy]
        rfl
      rw [this]
      exact hle
theorem best_none {l : List It} {wd tl : Int} (hb : bx l (-1) l.length = false) : bestP l wd tl = wy0 := by unfold bestP; rw [if_pos (.inr hb)]
end Go.Proofs.Ytnojikbecohhfaa
