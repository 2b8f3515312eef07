/- The walks over package measure and its reference: Plain, First, Breaks. -/
import Derived.Test.YtnojikbecohhfaaMsrPlain2
import Derived.Test.YtnojikbecohhfaaBut
import Derived.Lib.MinMax
import Derived.Test.YtnojikbecohhfaaChecked
namespace Go.Proofs.Ytnojikbecohhfaa
set_option linter.unusedSimpArgs false
set_option linter.unusedVariables false
open Go.RowKit

theorem plain_any (n : Int) (w : World) : Calls Try.prog 33 #[.int .i64 n] w fun e w' => e = .returned (.int .i64 (pl n)) ∧ w = w' := by
  by_cases h1 : n < 0
  · go_enter Try.func33, Try.ntmps33
    go_wp2
    go_ret
    exact ⟨ret_int (by unfold pl; rw [if_pos (Or.inl h1)]), rfl⟩
  · by_cases h2 : (10000 : Int) < n
    · go_enter Try.func33, Try.ntmps33
      go_wp2
      go_ret
      exact ⟨ret_int (by unfold pl; rw [if_pos (Or.inr h2)]), rfl⟩
    · go_enter Try.func33, Try.ntmps33
      go_wp2
      go_ret
      exact ⟨ret_int (by unfold pl; rw [if_neg (by omega)]), rfl⟩
theorem rplain_any (n : Int) (w : World) : Calls Try.prog 32 #[.int .i64 n] w fun e w' => e = .returned (.int .i64 (pl n)) ∧ w = w' := by
  by_cases h1 : n < 0
  · go_enter Try.func32, Try.ntmps32
    go_wp2
    go_ret
    exact ⟨ret_int (by unfold pl; rw [if_pos (Or.inl h1)]), rfl⟩
  · by_cases h2 : (10000 : Int) < n
    · go_enter Try.func32, Try.ntmps32
      go_wp2
      go_ret
      exact ⟨ret_int (by unfold pl; rw [if_pos (Or.inr h2)]), rfl⟩
    · go_enter Try.func32, Try.ntmps32
      go_wp2
      go_ret
      exact ⟨ret_int (by unfold pl; rw [if_neg (by omega)]), rfl⟩

/-- an item's cells -/
theorem its_cells {w : World} {B n : Nat} {A : Option Addr} {l : List It} (h : Sl w B 6 A n (encs l)) {k : Nat} {x : It} (hx : l[k]? = some x) :
    ∃ b o, A = some ⟨b, o, none⟩ ∧ b < B ∧ w.cell? ⟨b, o + k * 6, none⟩ = some (.int .i64 x.kind) ∧ w.cell? ⟨b, o + k * 6 + 1, none⟩ = some (.int .i64 x.w) ∧ w.cell? ⟨b, o + k * 6 + 2, none⟩ = some (.int .i64 x.y) ∧
      w.cell? ⟨b, o + k * 6 + 3, none⟩ = some (.int .i64 x.z) ∧ w.cell? ⟨b, o + k * 6 + 4, none⟩ = some (.int .i64 x.cost) ∧ w.cell? ⟨b, o + k * 6 + 5, none⟩ = some (.string x.text) := by
  have hk := (List.getElem?_eq_some_iff.1 hx).1
  have hn : l.length = n := by have := h.len; rw [encs_len] at this; omega
  obtain ⟨b, o, e, hb, _, hr⟩ := h.elem (k := k) (by omega)
  rw [encs, flatMap_part It.enc 6 It.enc_len l k x hx] at hr
  exact ⟨b, o, e, hb, hr 0 _ rfl, hr 1 _ rfl, hr 2 _ rfl, hr 3 _ rfl, hr 4 _ rfl, hr 5 _ rfl⟩
theorem its_len {w : World} {B n : Nat} {A : Option Addr} {l : List It} (h : Sl w B 6 A n (encs l)) : l.length = n := by have := h.len; rw [encs_len] at this; omega
theorem get_some {α : Type} {l : List α} {k : Nat} (h : k < l.length) : ∃ x, l[k]? = some x := ⟨_, List.getElem?_eq_getElem h⟩

theorem first_any {A : Option Addr} {n c B : Nat} {l : List It} (from_ : Int) (hm : n ≤ 1000000000000) {w : World} (h : Sl w B 6 A n (encs l)) :
    Calls Try.prog 19 #[.slice A n c, .int .i64 from_] w fun e w' => e = .returned (.int .i64 (fst l from_)) ∧ w = w' := by
  have hl := its_len h
  have hm' : (n : Int) ≤ 1000000000000 := by omega
  obtain ⟨s, hs⟩ : ∃ s, startAt n from_ = s := ⟨_, rfl⟩
  have hsn : s ≤ n := by rw [← hs]; unfold startAt; omega
  obtain ⟨u, e1, hu, hus⟩ : ∃ u : Nat, max (-1) (min from_ (n : Int)) + 1 = (u : Int) ∧ u ≤ n + 1 ∧ min u n = s := ⟨(max (-1) (min from_ (n : Int)) + 1).toNat, by omega, by omega, by rw [← hs]; rfl⟩
  have HU := Lib.hid hus
  have e2 : wrap64 (u : Int) = u := IntWalk.wrap64_in _ ⟨by omega, by omega⟩
  clear hus
  have HF : Hid (fst l from_ = nb l s) := Lib.hid (by unfold fst; rw [hl, hs])
  clear hs
  go_enter Try.func19, Try.ntmps19
  go_wp2
  go_loopw [5] (fun i wr => ∃ k : Nat, i = .int .i64 k ∧ k ≤ n + 1 ∧ nb l s = nb l (min k n) ∧ wr = w) (fun i _ => n - (intOf i).toNat)
  case atStart => exact ⟨u, rfl, hu, by rw [HU.out], rfl⟩
  case round =>
    obtain ⟨k, rfl, hk, hnb, rfl⟩ := hrel
    by_cases hlt : k < n
    · rw [show min k n = k from by omega] at hnb
      obtain ⟨x, hx⟩ := get_some (l := l) (k := k) (by omega)
      obtain ⟨b, o, rfl, hb, c0, -⟩ := its_cells h hx
      by_cases hk1 : x.kind = 1
      · rw [hk1] at c0
        have HN := Lib.hid (HF.out.trans (hnb.trans (nb_box hx hk1)))
        go_wp2
        go_ret
        exact ⟨ret_int (by rw [HN.out]), rfl⟩
      · have HN := Lib.hid (hnb.trans (nb_next hx hk1))
        generalize x.kind = q at *
        go_wp2
        go_roundw
        case rel => exact ⟨k + 1, by go_num, by omega, by rw [show min (k + 1) n = k + 1 from by omega]; exact HN.out, by simp⟩
        case measure => simp [intOf]; omega
    · have HN := Lib.hid (HF.out.trans (hnb.trans (nb_end (by omega))))
      have e4 : min k n = n := by omega
      rw [e4] at HN
      clear hnb e4
      go_wp2
      go_ret
      exact ⟨ret_int (by rw [HN.out]), rfl⟩
theorem rfirst_any {A : Option Addr} {n c B : Nat} {l : List It} (from_ : Int) (hm : n ≤ 1000000000000) {w : World} (h : Sl w B 6 A n (encs l)) :
    Calls Try.prog 37 #[.slice A n c, .int .i64 from_] w fun e w' => e = .returned (.int .i64 (fst l from_)) ∧ w = w' := by
  have hl := its_len h
  have hm' : (n : Int) ≤ 1000000000000 := by omega
  obtain ⟨s, hs⟩ : ∃ s, startAt n from_ = s := ⟨_, rfl⟩
  have hsn : s ≤ n := by rw [← hs]; unfold startAt; omega
  obtain ⟨u, e1, hu, hus⟩ : ∃ u : Nat, max (-1) (min from_ (n : Int)) + 1 = (u : Int) ∧ u ≤ n + 1 ∧ min u n = s := ⟨(max (-1) (min from_ (n : Int)) + 1).toNat, by omega, by omega, by rw [← hs]; rfl⟩
  have HU := Lib.hid hus
  have e2 : wrap64 (u : Int) = u := IntWalk.wrap64_in _ ⟨by omega, by omega⟩
  clear hus
  have HF : Hid (fst l from_ = nb l s) := Lib.hid (by unfold fst; rw [hl, hs])
  clear hs
  go_enter Try.func37, Try.ntmps37
  go_wp2
  go_loopw [5] (fun i wr => ∃ k : Nat, i = .int .i64 k ∧ k ≤ n + 1 ∧ nb l s = nb l (min k n) ∧ wr = w) (fun i _ => n - (intOf i).toNat)
  case atStart => exact ⟨u, rfl, hu, by rw [HU.out], rfl⟩
  case round =>
    obtain ⟨k, rfl, hk, hnb, rfl⟩ := hrel
    by_cases hlt : k < n
    · rw [show min k n = k from by omega] at hnb
      obtain ⟨x, hx⟩ := get_some (l := l) (k := k) (by omega)
      obtain ⟨b, o, rfl, hb, c0, -⟩ := its_cells h hx
      by_cases hk1 : x.kind = 1
      · rw [hk1] at c0
        have HN := Lib.hid (HF.out.trans (hnb.trans (nb_box hx hk1)))
        have e3 : min (k : Int) (n : Int) = k := by omega
        go_wp2
        go_ret
        exact ⟨ret_int (by rw [HN.out]), rfl⟩
      · have HN := Lib.hid (hnb.trans (nb_next hx hk1))
        generalize x.kind = q at *
        go_wp2
        go_roundw
        case rel => exact ⟨k + 1, by go_num, by omega, by rw [show min (k + 1) n = k + 1 from by omega]; exact HN.out, by simp⟩
        case measure => simp [intOf]; omega
    · have HN := Lib.hid (HF.out.trans (hnb.trans (nb_end (by omega))))
      have e4 : min k n = n := by omega
      have e3 : min (k : Int) (n : Int) = n := by omega
      rw [e4] at HN
      clear hnb e4
      go_wp2
      go_ret
      exact ⟨ret_int (by rw [HN.out]), rfl⟩

theorem heap_alloc_new2 (w : World) (o1 o2 : Obj) : ((w.alloc o1).alloc o2).heap[w.heap.size + 1]? = some o2 := by
  have := heap_alloc_new (w.alloc o1) o2
  rwa [World.size_alloc] at this
theorem elemI64 : Elem Try.prog 3 1 8 := elem_of (z := .int .i64 0) (by kernel_rfl) rfl (by omega)
def BrkPost (l : List It) (w : World) (e : Ending) (w' : World) : Prop :=
  ∃ A c, e = .returned (.slice A (brks l).length c) ∧ w'.ownsRow w.heap.size 3 1 (.slice A (brks l).length c) (brks l).length (ints (brks l)) ∧ Below w.heap.size w w'
theorem mayB_pen {l : List It} {k : Nat} {x : It} (hx : l[k]? = some x) (h : x.kind = 3) : mayB l k = true := by simp [mayB, hx, h]
theorem mayB_other {l : List It} {k : Nat} {x : It} (hx : l[k]? = some x) (h : x.kind ≠ 3) (h2 : x.kind ≠ 2) : mayB l k = false := by simp [mayB, hx, h, h2]
theorem mayB_stiff {l : List It} {k : Nat} {x : It} (hx : l[k]? = some x) (h : x.kind ≠ 3) (h2 : ¬ 0 < pl x.y) : mayB l k = false := by simp [mayB, hx, h, h2]
theorem mayB_zero {l : List It} {x : It} (hx : l[0]? = some x) (h : x.kind ≠ 3) : mayB l 0 = false := by simp [mayB, hx, h]
theorem mayB_no {l : List It} {k : Nat} {x y : It} (hx : l[k + 1]? = some x) (h : x.kind ≠ 3) (hy : l[k]? = some y) (h3 : y.kind ≠ 1) : mayB l (k + 1) = false := by simp [mayB, hx, h, hy, h3]
theorem mayB_yes {l : List It} {k : Nat} {x y : It} (hx : l[k + 1]? = some x) (h : x.kind = 2) (h2 : 0 < pl x.y) (hy : l[k]? = some y) (h3 : y.kind = 1) : mayB l (k + 1) = true := by simp [mayB, hx, h, hy, h3, h2]

set_option maxHeartbeats 2000000 in
set_option maxRecDepth 100000 in
theorem breaks_any {A : Option Addr} {n c : Nat} {l : List It} (hm : n ≤ 1000000000000) {w : World} (h : Sl w w.heap.size 6 A n (encs l)) :
    Calls Try.prog 21 #[.slice A n c] w (BrkPost l w) := by
  have hl := its_len h
  have hm' : (n : Int) ≤ 1000000000000 := by omega
  go_enter Try.func21, Try.ntmps21
  go_wp2
  go_loopw [3, 8] (fun v i wr => ∃ k : Nat, i = .int .i64 k ∧ k ≤ n ∧ wr.ownsRow w.heap.size 3 1 v (brksTo l k).length (ints (brksTo l k)) ∧ Below w.heap.size w wr) (fun _ i _ => n - (intOf i).toNat)
  case atStart => exact ⟨0, rfl, by omega, World.ownsRow_nil _ _ _ _, Below.refl _ _⟩
  case round =>
    obtain ⟨k, rfl, hk, hown, hbr⟩ := hrel
    have hsr := h.below hbr
    have hzr := hbr.size
    have hlen := brksTo_len l k
    by_cases hlt : k < n
    · obtain ⟨x, hx⟩ := get_some (l := l) (k := k) (by omega)
      obtain ⟨b, o, rfl, hb, c0, c1, c2, c3, c4, c5⟩ := its_cells hsr hx
      have hbl : b < wr.heap.size := by omega
      by_cases k3 : x.kind = 3
      · rw [k3] at c0
        have HM := Lib.hid (mayB_pen hx k3)
        go_wp2_with (first | (go_at_call 33; refine (plain_any _ _).mono ?_; rintro e w' ⟨rfl, rfl⟩) | (at_builtin; refine wpList_app _ rfl (.tmp 40) (.tmp 42) 25 rfl Try.underlying25 elemI64 rfl ((hown.alloc _).alloc _) rfl (Sl.new (n := 1) (heap_alloc_new2 _ _ _) rfl) (by simp [Value.oneCell']) (by simp only [maxLen]; omega) (by omega) (by simp; omega) ?_; intro A4 c4 w4 hown4 hg4 hb4 hat4))
        go_roundw
        case rel =>
          refine ⟨k + 1, by go_num, by omega, ?_, ?_⟩
          · rw [brksTo_next, if_pos HM.out, ints_append, List.length_append]; exact hown4
          · exact (((hbr.alloc (by omega) _).alloc (by simp; omega) _).trans hb4)
        case measure => simp [intOf]; omega
      · by_cases k2 : x.kind = 2
        · rw [k2] at c0
          by_cases hp : 0 < pl x.y
          · by_cases k0 : k = 0
            · have HM := Lib.hid (show mayB l k = false by subst k0; exact mayB_zero hx k3)
              have e2 : ¬ (0 : Int) < (k : Int) := by omega
              clear k0
              have HM := Lib.hid (HM.out)
              go_wp2_with (go_at_call 33; refine (plain_any _ _).mono ?_; rintro e w' ⟨rfl, rfl⟩)
              go_roundw
              case rel =>
                refine ⟨k + 1, by go_num, by omega, ?_, ?_⟩
                · rw [brksTo_next, if_neg (by rw [HM.out]; simp), List.append_nil]; exact hown.alloc _
                · exact hbr.alloc (by omega) _
              case measure => simp [intOf]; omega
            · obtain ⟨j, hj⟩ : ∃ j, k = j + 1 := ⟨k - 1, by omega⟩
              obtain ⟨y, hy⟩ := get_some (l := l) (k := j) (by omega)
              obtain ⟨b', o', he, -, d0, -⟩ := its_cells hsr hy
              injection he with he; injection he with he1 he2; subst he1 he2
              rw [show j = k - 1 from by omega] at d0
              have e2 : (0 : Int) < (k : Int) := by omega
              by_cases q1 : y.kind = 1
              · have HM := Lib.hid (show mayB l k = true by subst hj; exact mayB_yes hx k2 hp hy q1)
                rw [q1] at d0
                clear hj
                have HM := Lib.hid (HM.out)
                go_wp2_with (first | (go_at_call 33; refine (plain_any _ _).mono ?_; rintro e w' ⟨rfl, rfl⟩) | (at_builtin; refine wpList_app _ rfl (.tmp 40) (.tmp 42) 25 rfl Try.underlying25 elemI64 rfl ((hown.alloc _).alloc _) rfl (Sl.new (n := 1) (heap_alloc_new2 _ _ _) rfl) (by simp [Value.oneCell']) (by simp only [maxLen]; omega) (by omega) (by simp; omega) ?_; intro A4 c4 w4 hown4 hg4 hb4 hat4))
                go_roundw
                case rel =>
                  refine ⟨k + 1, by go_num, by omega, ?_, ?_⟩
                  · rw [brksTo_next, if_pos HM.out, ints_append, List.length_append]; exact hown4
                  · exact (((hbr.alloc (by omega) _).alloc (by simp; omega) _).trans hb4)
                case measure => simp [intOf]; omega
              · have HM := Lib.hid (show mayB l k = false by subst hj; exact mayB_no hx k3 hy q1)
                generalize y.kind = q at *
                clear hj
                have HM := Lib.hid (HM.out)
                go_wp2_with (go_at_call 33; refine (plain_any _ _).mono ?_; rintro e w' ⟨rfl, rfl⟩)
                go_roundw
                case rel =>
                  refine ⟨k + 1, by go_num, by omega, ?_, ?_⟩
                  · rw [brksTo_next, if_neg (by rw [HM.out]; simp), List.append_nil]; exact hown.alloc _
                  · exact hbr.alloc (by omega) _
                case measure => simp [intOf]; omega
          · skip
            have HM := Lib.hid (mayB_stiff hx k3 hp)
            go_wp2_with (go_at_call 33; refine (plain_any _ _).mono ?_; rintro e w' ⟨rfl, rfl⟩)
            go_roundw
            case rel =>
              refine ⟨k + 1, by go_num, by omega, ?_, ?_⟩
              · rw [brksTo_next, if_neg (by rw [HM.out]; simp), List.append_nil]; exact hown.alloc _
              · exact hbr.alloc (by omega) _
            case measure => simp [intOf]; omega
        · have HM := Lib.hid (mayB_other hx k3 k2)
          generalize x.kind = q at *
          have HM := Lib.hid (HM.out)
          go_wp2_with (go_at_call 33; refine (plain_any _ _).mono ?_; rintro e w' ⟨rfl, rfl⟩)
          go_roundw
          case rel =>
            refine ⟨k + 1, by go_num, by omega, ?_, ?_⟩
            · rw [brksTo_next, if_neg (by rw [HM.out]; simp), List.append_nil]; exact hown.alloc _
            · exact hbr.alloc (by omega) _
          case measure => simp [intOf]; omega
    · obtain rfl : k = n := by omega
      obtain ⟨A3, c3, rfl, hcp⟩ := own_form hown
      go_wp2_with (at_builtin; refine wpList_app _ rfl (.tmp 45) (.tmp 48) 25 rfl Try.underlying25 elemI64 rfl (hown.alloc _) rfl (Sl.new (n := 1) (heap_alloc_new _ _) rfl) (by simp [Value.oneCell']) (by simp only [maxLen]; omega) (by omega) (by simp; omega) ?_; intro A4 c4 w4 hown4 hg4 hb4 hat4)
      go_ret
      refine ⟨A4, c4, by rw [brks_len, hl]; rfl, ?_, (hbr.alloc (by omega) _).trans hb4⟩
      rw [brks_len, brks, hl, ints_append]; exact hown4

set_option maxHeartbeats 2000000 in
set_option maxRecDepth 100000 in
theorem rbreaks_any {A : Option Addr} {n c : Nat} {l : List It} (hm : n ≤ 1000000000000) {w : World} (h : Sl w w.heap.size 6 A n (encs l)) :
    Calls Try.prog 18 #[.slice A n c] w (BrkPost l w) := by
  have hl := its_len h
  have hm' : (n : Int) ≤ 1000000000000 := by omega
  go_enter Try.func18, Try.ntmps18
  go_wp2
  go_loopw [3, 4] (fun v i wr => ∃ k : Nat, i = .int .i64 k ∧ k ≤ n ∧ wr.ownsRow w.heap.size 3 1 v (brksTo l k).length (ints (brksTo l k)) ∧ Below w.heap.size w wr) (fun _ i _ => n - (intOf i).toNat)
  case atStart => exact ⟨0, rfl, by omega, World.ownsRow_nil _ _ _ _, Below.refl _ _⟩
  case round =>
    obtain ⟨k, rfl, hk, hown, hbr⟩ := hrel
    have hsr := h.below hbr
    have hzr := hbr.size
    have hlen := brksTo_len l k
    by_cases hlt : k < n
    · obtain ⟨x, hx⟩ := get_some (l := l) (k := k) (by omega)
      obtain ⟨b, o, rfl, hb, c0, c1, c2, c3, c4, c5⟩ := its_cells hsr hx
      have hbl : b < wr.heap.size := by omega
      by_cases k3 : x.kind = 3
      · rw [k3] at c0
        have HM := Lib.hid (mayB_pen hx k3)
        go_wp2_with (first | (go_at_call 32; refine (rplain_any _ _).mono ?_; rintro e w' ⟨rfl, rfl⟩) | (at_builtin; refine wpList_app _ rfl (.tmp 47) (.tmp 49) 25 rfl Try.underlying25 elemI64 rfl (hown.alloc _) rfl (Sl.new (n := 1) (heap_alloc_new _ _) rfl) (by simp [Value.oneCell']) (by simp only [maxLen]; omega) (by omega) (by simp; omega) ?_; intro A4 c4 w4 hown4 hg4 hb4 hat4))
        go_roundw
        case rel =>
          refine ⟨k + 1, by go_num, by omega, ?_, ?_⟩
          · rw [brksTo_next, if_pos HM.out, ints_append, List.length_append]; exact hown4
          · exact ((hbr.alloc (by omega) _).trans hb4)
        case measure => simp [intOf]; omega
      · by_cases k2 : x.kind = 2
        · rw [k2] at c0
          by_cases hp : 0 < pl x.y
          · by_cases k0 : k = 0
            · have HM := Lib.hid (show mayB l k = false by subst k0; exact mayB_zero hx k3)
              have e2 : ¬ (0 : Int) < (k : Int) := by omega
              clear k0
              have HM := Lib.hid (HM.out)
              go_wp2_with (go_at_call 32; refine (rplain_any _ _).mono ?_; rintro e w' ⟨rfl, rfl⟩)
              go_roundw
              case rel =>
                refine ⟨k + 1, by go_num, by omega, ?_, ?_⟩
                · rw [brksTo_next, if_neg (by rw [HM.out]; simp), List.append_nil]; exact hown
                · exact hbr
              case measure => simp [intOf]; omega
            · obtain ⟨j, hj⟩ : ∃ j, k = j + 1 := ⟨k - 1, by omega⟩
              obtain ⟨y, hy⟩ := get_some (l := l) (k := j) (by omega)
              obtain ⟨b', o', he, -, d0, -⟩ := its_cells hsr hy
              injection he with he; injection he with he1 he2; subst he1 he2
              rw [show j = k - 1 from by omega] at d0
              have e2 : (0 : Int) < (k : Int) := by omega
              by_cases q1 : y.kind = 1
              · have HM := Lib.hid (show mayB l k = true by subst hj; exact mayB_yes hx k2 hp hy q1)
                rw [q1] at d0
                clear hj
                have HM := Lib.hid (HM.out)
                go_wp2_with (first | (go_at_call 32; refine (rplain_any _ _).mono ?_; rintro e w' ⟨rfl, rfl⟩) | (at_builtin; refine wpList_app _ rfl (.tmp 47) (.tmp 49) 25 rfl Try.underlying25 elemI64 rfl (hown.alloc _) rfl (Sl.new (n := 1) (heap_alloc_new _ _) rfl) (by simp [Value.oneCell']) (by simp only [maxLen]; omega) (by omega) (by simp; omega) ?_; intro A4 c4 w4 hown4 hg4 hb4 hat4))
                go_roundw
                case rel =>
                  refine ⟨k + 1, by go_num, by omega, ?_, ?_⟩
                  · rw [brksTo_next, if_pos HM.out, ints_append, List.length_append]; exact hown4
                  · exact ((hbr.alloc (by omega) _).trans hb4)
                case measure => simp [intOf]; omega
              · have HM := Lib.hid (show mayB l k = false by subst hj; exact mayB_no hx k3 hy q1)
                generalize y.kind = q at *
                clear hj
                have HM := Lib.hid (HM.out)
                go_wp2_with (go_at_call 32; refine (rplain_any _ _).mono ?_; rintro e w' ⟨rfl, rfl⟩)
                go_roundw
                case rel =>
                  refine ⟨k + 1, by go_num, by omega, ?_, ?_⟩
                  · rw [brksTo_next, if_neg (by rw [HM.out]; simp), List.append_nil]; exact hown
                  · exact hbr
                case measure => simp [intOf]; omega
          · skip
            have HM := Lib.hid (mayB_stiff hx k3 hp)
            go_wp2_with (go_at_call 32; refine (rplain_any _ _).mono ?_; rintro e w' ⟨rfl, rfl⟩)
            go_roundw
            case rel =>
              refine ⟨k + 1, by go_num, by omega, ?_, ?_⟩
              · rw [brksTo_next, if_neg (by rw [HM.out]; simp), List.append_nil]; exact hown
              · exact hbr
            case measure => simp [intOf]; omega
        · have HM := Lib.hid (mayB_other hx k3 k2)
          generalize x.kind = q at *
          have HM := Lib.hid (HM.out)
          go_wp2_with (go_at_call 32; refine (rplain_any _ _).mono ?_; rintro e w' ⟨rfl, rfl⟩)
          go_roundw
          case rel =>
            refine ⟨k + 1, by go_num, by omega, ?_, ?_⟩
            · rw [brksTo_next, if_neg (by rw [HM.out]; simp), List.append_nil]; exact hown
            · exact hbr
          case measure => simp [intOf]; omega
    · obtain rfl : k = n := by omega
      obtain ⟨A3, c3, rfl, hcp⟩ := own_form hown
      go_wp2_with (at_builtin; refine wpList_app _ rfl (.tmp 51) (.tmp 54) 25 rfl Try.underlying25 elemI64 rfl (hown.alloc _) rfl (Sl.new (n := 1) (heap_alloc_new _ _) rfl) (by simp [Value.oneCell']) (by simp only [maxLen]; omega) (by omega) (by simp; omega) ?_; intro A4 c4 w4 hown4 hg4 hb4 hat4)
      go_ret
      refine ⟨A4, c4, by rw [brks_len, hl]; rfl, ?_, (hbr.alloc (by omega) _).trans hb4⟩
      rw [brks_len, brks, hl, ints_append]; exact hown4

end Go.Proofs.Ytnojikbecohhfaa
