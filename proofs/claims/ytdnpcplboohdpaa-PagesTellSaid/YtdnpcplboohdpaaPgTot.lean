/- codexlaw20.total, lesser: what ends cost; which list is the lesser one. (s8/pgtot.py writes it.) -/
import Derived.Test.YtdnpcplboohdpaaPgLaw2
import Derived.Test.YtdnpcplboohdpaaPgKeep
namespace Go.Proofs.Ytdnpcplboohdpaa
set_option linter.unusedSimpArgs false
set_option linter.unusedVariables false
open Go.RowKit Go.Sort

theorem whole_lenT {l : List LN} {h : Int} {f : Nat} {E : List Int} {c : Int} (hw : Whole l h f E c) : f ≤ l.length → f + E.length ≤ l.length := by
  induction hw with
  | done hd => intro hf; simpa using hf
  | skip hx _ _ ih => intro _; have := (List.getElem?_eq_some_iff.1 hx).1; have := ih (by omega); omega
  | page ho _ ih =>
    intro _
    obtain ⟨h1, h2, h3, h4⟩ := pgOk_iff.1 ho
    have := ih h2
    rw [List.length_cons]
    omega
theorem beq_nat (g n : Nat) : ((g : Int) == (n : Int)) = decide (g = n) := by
  rw [Bool.eq_iff_iff, beq_iff_eq, decide_eq_true_iff]; omega
theorem ints_drop {l : List Int} {k : Nat} {x : Int} (h : l[k]? = some x) : l.drop k = x :: l.drop (k + 1) := by
  obtain ⟨hk, rfl⟩ := List.getElem?_eq_some_iff.1 h
  exact List.drop_eq_getElem_cons hk
theorem tot_yes {l : List LN} {h : Int} {f i g t : Nat} {E : List Int} {N : Int} (hg : skE l f = g) (hE : E[i]? = some (t : Int)) (ho : pgOk l (g : Nat) (t : Nat) h = true) : totE l h f (E.drop i) N = totE l h t (E.drop (i + 1)) (N + price l (g : Nat) (t : Nat) h) := by
  rw [ints_drop hE, totE, hg, if_pos ho]; rfl
theorem tot_no {l : List LN} {h : Int} {f i g : Nat} {E : List Int} {N e : Int} (hg : skE l f = g) (hE : E[i]? = some e) (ho : pgOk l (g : Nat) e h = false) : totE l h f (E.drop i) N = (0, false) := by
  rw [ints_drop hE, totE, hg, if_neg (by rw [ho]; simp)]
theorem tot_end {l : List LN} {h : Int} {f i g : Nat} {E : List Int} {N : Int} (hg : skE l f = g) (hE : E.length ≤ i) : totE l h f (E.drop i) N = (N, decide (g = l.length)) := by
  rw [List.drop_of_length_le hE, totE, hg]
set_option maxHeartbeats 16000000 in
set_option maxRecDepth 100000 in
theorem total_any {A A' : Option Addr} {n c m c' : Nat} {l : List LN} {E : List Int} {h : Int} (w : World) (hl : LnAt w w.heap.size A n c l) (hone : ∀ x ∈ l, x.One) (he : IvAt w w.heap.size A' m c' E) (h20 : h ≤ 20) (hn : n ≤ 300) (hm : m ≤ 1000000) :
    Calls Try.prog 17 #[.slice A n c, .slice A' m c', .int .i64 h] w (Ret w (.tuple #[.int .i64 (totE l h 0 E 0).1, .bool (totE l h 0 E 0).2])) := by
  have HL := Lib.hid (And.intro hl (And.intro hone (And.intro he (And.intro hl.len he.len))))
  obtain ⟨R, hR⟩ : ∃ q, totE l h 0 E 0 = q := ⟨_, rfl⟩
  rw [hR]
  have HR := Lib.hid hR
  clear hl hone he hR
  go_enter Try.func17, Try.ntmps17
  go_wp2_with fail
  go_loopw [8, 9, 10] (fun s8 s9 s10 wr => ∃ (N : Int) (f i : Nat), 0 ≤ N ∧ N ≤ 10000 * (f : Int) ∧ f ≤ n ∧ i ≤ m ∧ s8 = .int .i64 N ∧ s9 = .int .i64 f ∧ s10 = .int .i64 i ∧ Hid (Below w.heap.size w wr ∧ R = totE l h f (E.drop i) N)) (fun _ _ i _ => m - (intOf i).toNat)
  case atStart => exact ⟨0, 0, 0, by omega, by omega, by omega, by omega, rfl, rfl, rfl, Lib.hid ⟨Below.refl _ _, HR.out.symm⟩⟩
  case round =>
    obtain ⟨N, f, i, hN0, hN1, hf, hi, rfl, rfl, rfl, HX⟩ := hrel
    by_cases him : i < m
    · have him' : (i : Int) < (m : Int) := by omega
      have hi0 : (0 : Int) ≤ (i : Int) := by omega
      obtain ⟨ev, hev⟩ : ∃ x, E[i]? = some x := ⟨_, List.getElem?_eq_getElem (by rw [HL.out.2.2.2.2]; exact him)⟩
      obtain ⟨be, oe, rfl, hbe, hxe⟩ := HL.out.2.2.1.entry hev
      have HV := Lib.hid (And.intro hev (And.intro hbe hxe))
      have hxw := (HX.out.1.cell (p := ⟨be, oe + i, none⟩) hbe).trans hxe
      have hbw : be < wr.heap.size := by have := HX.out.1.size; omega
      have hwide := HL.out.2.2.1.wide ev (List.mem_of_getElem? hev)
      clear hev hbe hxe
      go_upto_region 5 with (fail)
      go_wp2_with fail
      rename World => Zo
      go_loopw [9] (fun s9 wr => ∃ g : Nat, f ≤ g ∧ g ≤ n ∧ s9 = .int .i64 g ∧ wr = Zo ∧ Hid (skE l f = skE l g)) (fun g _ => n - (intOf g).toNat)
      case atStart => exact ⟨f, by omega, by omega, rfl, rfl, Lib.hid rfl⟩
      case round =>
        obtain ⟨g, hg1, hg2, rfl, rfl, HG⟩ := hrel
        have hg0 : (0 : Int) ≤ (g : Int) := by omega
        have hcost := cost_any (a := (g : Int)) (b := ev) (h := h) _ (HL.out.1.nxt HX.out.1) HL.out.2.1 (by omega) (by omega)
        by_cases hgn : g < n
        · have hgn' : (g : Int) < (n : Int) := by omega
          obtain ⟨x, hx⟩ : ∃ x, l[g]? = some x := ⟨_, List.getElem?_eq_getElem (by rw [HL.out.2.2.2.1]; exact hgn)⟩
          obtain ⟨b, o, rfl, hbB, hxr⟩ := HL.out.1.entry hx
          have hk := (ln_cells (bRange HX.out.1 hbB hxr)).1
          have hbw2 : b < wr.heap.size := by have := HX.out.1.size; omega
          by_cases hej : x.kind = 4
          · rw [hej] at hk
            have g1 : IntKind.i64.wrap ((g : Int) + 1) = ((g + 1 : Nat) : Int) := by rw [wrap_small _ (by omega) (by omega)]; omega
            have HG2 := Lib.hid (HG.out.trans (skE_ej hx (by unfold LN.ej; exact decide_eq_true hej)))
            clear hx hxr hej HG hcost
            go_wp2_with fail
            go_roundw
            case rel => exact ⟨g + 1, by omega, by omega, by go_num, by trivial, HG2⟩
            case measure => simp [intOf]; omega
          · have HS := Lib.hid (HG.out.trans (skE_no hx (by unfold LN.ej; exact decide_eq_false hej)))
            clear hx hxr HG
            go_upto_region 7 with (fail)
            go_wp2_with fail
            refine Calls.mono hcost ?_
            rintro e w2 ⟨rfl, hb2⟩
            clear hcost
            have HB2 := Lib.hid (bNext HX.out.1 hb2)
            have hxw2 := (hb2.cell (p := ⟨be, oe + i, none⟩) hbw).trans hxw
            have hbw3 : be < w2.heap.size := by have := hb2.size; omega
            obtain ⟨hev, -, -⟩ := HV.out
            cases hpo : pgOk l (g : Int) ev h with
            | false =>
              have HS2 := Lib.hid (HX.out.2.trans (tot_no HS.out hev hpo))
              clear hb2 hxw hev hpo
              try clear hk
              go_wp2_with fail
              go_returns
              exact ret2 (by rw [HS2.out]; rfl) HB2.out
            | true =>
              obtain ⟨t, rfl⟩ : ∃ t : Nat, ev = (t : Int) := ⟨ev.toNat, by unfold pgOk at hpo; rw [Bool.and_eq_true, decide_eq_true_iff] at hpo; omega⟩
              obtain ⟨q1, q2, q3, q4⟩ := pgOk_iff.1 hpo
              rw [HL.out.2.2.2.1] at q2
              have hpr := price_rng h20 hpo
              have HS2 := Lib.hid (HX.out.2.trans (tot_yes HS.out hev hpo))
              obtain ⟨p, hp⟩ : ∃ q, price l (g : Nat) (t : Nat) h = q := ⟨_, rfl⟩
              have hcn : costN l (g : Int) (t : Int) h = p := by unfold costN; rw [if_pos hpo]; exact hp
              rw [hcn]
              rw [hp] at hpr HS2
              clear hb2 hxw hev hpo hcn hp q3 q4
              try clear hk
              have g1 : IntKind.i64.wrap ((i : Int) + 1) = ((i + 1 : Nat) : Int) := by rw [wrap_small _ (by omega) (by omega)]; omega
              have g2 : IntKind.i64.wrap (N + p) = N + p := wrap_small _ (by omega) (by omega)
              go_wp2_with fail
              go_roundw
              case rel => exact ⟨N + p, t, i + 1, by omega, by omega, q2, by omega, by go_num, rfl, by go_num, Lib.hid ⟨HB2.out, HS2.out⟩⟩
              case measure => simp [intOf]; omega
        · have hgn' : ¬ (g : Int) < (n : Int) := by omega
          have HS := Lib.hid (HG.out.trans (skE_end (by rw [HL.out.2.2.2.1]; omega)))
          clear HG
          go_upto_region 7 with (fail)
          go_wp2_with fail
          refine Calls.mono hcost ?_
          rintro e w2 ⟨rfl, hb2⟩
          clear hcost
          have HB2 := Lib.hid (bNext HX.out.1 hb2)
          have hxw2 := (hb2.cell (p := ⟨be, oe + i, none⟩) hbw).trans hxw
          have hbw3 : be < w2.heap.size := by have := hb2.size; omega
          obtain ⟨hev, -, -⟩ := HV.out
          cases hpo : pgOk l (g : Int) ev h with
          | false =>
            have HS2 := Lib.hid (HX.out.2.trans (tot_no HS.out hev hpo))
            clear hb2 hxw hev hpo
            try clear hk
            go_wp2_with fail
            go_returns
            exact ret2 (by rw [HS2.out]; rfl) HB2.out
          | true =>
            obtain ⟨t, rfl⟩ : ∃ t : Nat, ev = (t : Int) := ⟨ev.toNat, by unfold pgOk at hpo; rw [Bool.and_eq_true, decide_eq_true_iff] at hpo; omega⟩
            obtain ⟨q1, q2, q3, q4⟩ := pgOk_iff.1 hpo
            rw [HL.out.2.2.2.1] at q2
            have hpr := price_rng h20 hpo
            have HS2 := Lib.hid (HX.out.2.trans (tot_yes HS.out hev hpo))
            obtain ⟨p, hp⟩ : ∃ q, price l (g : Nat) (t : Nat) h = q := ⟨_, rfl⟩
            have hcn : costN l (g : Int) (t : Int) h = p := by unfold costN; rw [if_pos hpo]; exact hp
            rw [hcn]
            rw [hp] at hpr HS2
            clear hb2 hxw hev hpo hcn hp q3 q4
            try clear hk
            have g1 : IntKind.i64.wrap ((i : Int) + 1) = ((i + 1 : Nat) : Int) := by rw [wrap_small _ (by omega) (by omega)]; omega
            have g2 : IntKind.i64.wrap (N + p) = N + p := wrap_small _ (by omega) (by omega)
            go_wp2_with fail
            go_roundw
            case rel => exact ⟨N + p, t, i + 1, by omega, by omega, q2, by omega, by go_num, rfl, by go_num, Lib.hid ⟨HB2.out, HS2.out⟩⟩
            case measure => simp [intOf]; omega
    · obtain rfl : i = m := by omega
      have him' : ¬ (i : Int) < (i : Int) := by omega
      go_upto_region 12 with (fail)
      go_wp2_with fail
      rename World => Zo
      go_loopw [9] (fun s9 wr => ∃ g : Nat, f ≤ g ∧ g ≤ n ∧ s9 = .int .i64 g ∧ wr = Zo ∧ Hid (skE l f = skE l g)) (fun g _ => n - (intOf g).toNat)
      case atStart => exact ⟨f, by omega, by omega, rfl, rfl, Lib.hid rfl⟩
      case round =>
        obtain ⟨g, hg1, hg2, rfl, rfl, HG⟩ := hrel
        have hg0 : (0 : Int) ≤ (g : Int) := by omega
        by_cases hgn : g < n
        · have hgn' : (g : Int) < (n : Int) := by omega
          obtain ⟨x, hx⟩ : ∃ x, l[g]? = some x := ⟨_, List.getElem?_eq_getElem (by rw [HL.out.2.2.2.1]; exact hgn)⟩
          obtain ⟨b, o, rfl, hbB, hxr⟩ := HL.out.1.entry hx
          have hk := (ln_cells (bRange HX.out.1 hbB hxr)).1
          have hbw2 : b < wr.heap.size := by have := HX.out.1.size; omega
          by_cases hej : x.kind = 4
          · rw [hej] at hk
            have g1 : IntKind.i64.wrap ((g : Int) + 1) = ((g + 1 : Nat) : Int) := by rw [wrap_small _ (by omega) (by omega)]; omega
            have HG2 := Lib.hid (HG.out.trans (skE_ej hx (by unfold LN.ej; exact decide_eq_true hej)))
            clear hx hxr hej HG
            go_wp2_with fail
            go_roundw
            case rel => exact ⟨g + 1, by omega, by omega, by go_num, by trivial, HG2⟩
            case measure => simp [intOf]; omega
          · have HS := Lib.hid (HX.out.2.trans (tot_end (HG.out.trans (skE_no hx (by unfold LN.ej; exact decide_eq_false hej))) (by rw [HL.out.2.2.2.2]; exact Nat.le_refl _)))
            have HB := Lib.hid HX.out.1
            clear hx hxr HG HX
            go_wp2_with fail
            go_returns
            exact ret2 (by rw [HS.out, HL.out.2.2.2.1]; simp; exact beq_nat _ _) HB.out
        · have hgn' : ¬ (g : Int) < (n : Int) := by omega
          have HS := Lib.hid (HX.out.2.trans (tot_end (HG.out.trans (skE_end (by rw [HL.out.2.2.2.1]; omega))) (by rw [HL.out.2.2.2.2]; exact Nat.le_refl _)))
          have HB := Lib.hid HX.out.1
          clear HG HX
          go_wp2_with fail
          go_returns
          exact ret2 (by rw [HS.out, HL.out.2.2.2.1]; simp; exact beq_nat _ _) HB.out
/-- which list is the lesser one, where neither is the other's beginning -/
theorem lt_at {a b : List Int} {k : Nat} {x y : Int} (h : ∀ j : Nat, j < k → a[j]? = b[j]?) (hx : a[k]? = some x) (hy : b[k]? = some y) (hxy : x < y) : a < b := by
  induction k generalizing a b with
  | zero =>
    cases a with
    | nil => cases hx
    | cons u a =>
      cases b with
      | nil => cases hy
      | cons v b =>
        cases hx; cases hy
        exact List.cons_lt_cons_iff.2 (.inl hxy)
  | succ k ih =>
    have h0 := h 0 (by omega)
    cases a with
    | nil => cases hx
    | cons u a =>
      cases b with
      | nil => cases hy
      | cons v b =>
        cases h0
        exact List.cons_lt_cons_iff.2 (.inr ⟨rfl, ih (fun j hj => by have := h (j + 1) (by omega); simpa using this) (by simpa using hx) (by simpa using hy)⟩)
def LessP (w : World) (la lb : List Int) (e : Ending) (w' : World) : Prop := ∃ r, e = .returned (.bool r) ∧ (r = true → la < lb) ∧ Below w.heap.size w w'
set_option maxHeartbeats 8000000 in
set_option maxRecDepth 100000 in
theorem lesser_any {A A' : Option Addr} {n m c c' : Nat} {la lb : List Int} (w : World) (ha : IvAt w w.heap.size A n c la) (hb : IvAt w w.heap.size A' m c' lb) (hn : n ≤ 1000000) (hm : m ≤ 1000000) :
    Calls Try.prog 18 #[.slice A n c, .slice A' m c'] w (LessP w la lb) := by
  have HA := Lib.hid ha
  have HB := Lib.hid hb
  have HN := Lib.hid (And.intro ha.len hb.len)
  clear ha hb
  go_enter Try.func18, Try.ntmps18
  go_wp2_with fail
  go_loopw [5] (fun i wr => ∃ k : Nat, k ≤ n ∧ k ≤ m ∧ i = .int .i64 k ∧ Below w.heap.size w wr ∧ (∀ j : Nat, j < k → la[j]? = lb[j]?)) (fun i _ => n - (intOf i).toNat)
  case atStart => exact ⟨0, by omega, by omega, rfl, Below.refl _ _, fun j hj => absurd hj (by omega)⟩
  case round =>
    obtain ⟨k, hk, hkm, rfl, hBr, hne⟩ := hrel
    by_cases hlt : k < n
    · have hi1 : (k : Int) < (n : Int) := by omega
      by_cases hltm : k < m
      · obtain ⟨x, hx⟩ : ∃ x, la[k]? = some x := ⟨_, List.getElem?_eq_getElem (by rw [HN.out.1]; exact hlt)⟩
        obtain ⟨y, hy⟩ : ∃ y, lb[k]? = some y := ⟨_, List.getElem?_eq_getElem (by rw [HN.out.2]; exact hltm)⟩
        obtain ⟨b, o, rfl, hbB, hxr⟩ := HA.out.entry hx
        obtain ⟨b', o', rfl, hbB', hyr⟩ := HB.out.entry hy
        have hi2 : (k : Int) < (m : Int) := by omega
        have hxr1 := (hBr.cell (p := ⟨b, o + k, none⟩) hbB).trans hxr
        have hyr1 := (hBr.cell (p := ⟨b', o' + k, none⟩) hbB').trans hyr
        have HX := Lib.hid (And.intro hx (And.intro hy (And.intro hne hBr)))
        clear hx hy hne hxr hyr hBr
        by_cases hxy : x = y
        · subst hxy
          go_upto_region 4 with (fail)
          go_quiet (fail)
          obtain ⟨V, hV⟩ : ∃ q, wr.drewN nq = q := ⟨_, rfl⟩
          have hbV : Below wr.heap.size wr V := by rw [← hV]; exact bDrewN (Below.refl _ _) nq
          rw [hV]
          clear hV
          obtain ⟨hx, hy, hne, hBr⟩ := HX.out
          have HR := Lib.hid (And.intro hx (And.intro hy (And.intro hne (bNext hBr hbV))))
          clear hx hy hne hBr HX hxr1 hyr1 hbV
          go_wp2_with fail
          go_roundw
          case rel => exact ⟨k + 1, by omega, by omega, by go_num, HR.out.2.2.2, fun j hj => by
            rcases Nat.lt_or_ge j k with h | h
            · exact HR.out.2.2.1 j h
            · obtain rfl : j = k := by omega
              rw [HR.out.1, HR.out.2.1]⟩
          case measure => simp [intOf]; omega
        · go_upto_region 4 with (fail)
          go_quiet (fail)
          obtain ⟨V, hV⟩ : ∃ q, wr.drewN nq = q := ⟨_, rfl⟩
          have hbV : Below wr.heap.size wr V := by rw [← hV]; exact bDrewN (Below.refl _ _) nq
          rw [hV]
          clear hV
          have hxr2 := (hbV.cell (p := ⟨b, o + k, none⟩) (by have := HX.out.2.2.2.size; show b < _; omega)).trans hxr1
          have hyr2 := (hbV.cell (p := ⟨b', o' + k, none⟩) (by have := HX.out.2.2.2.size; show b' < _; omega)).trans hyr1
          have HB1 := Lib.hid (bNext HX.out.2.2.2 hbV)
          clear hxr1 hyr1 hbV
          go_upto_region 5 with (fail)
          go_quiet (fail)
          obtain ⟨V2, hV⟩ : ∃ q, V.drewN nq = q := ⟨_, rfl⟩
          have hbV : Below V.heap.size V V2 := by rw [← hV]; exact bDrewN (Below.refl _ _) nq
          rw [hV]
          clear hV
          have HB2 := Lib.hid (bNext HB1.out hbV)
          clear hxr2 hyr2 hbV
          by_cases hxl : x < y
          · go_wp2_with fail
            go_ret
            exact ⟨true, ret_bool (by simp; omega), fun _ => lt_at HX.out.2.2.1 HX.out.1 HX.out.2.1 hxl, HB2.out⟩
          · go_wp2_with fail
            go_ret
            exact ⟨false, ret_bool (by simp; omega), fun h => (by cases h), HB2.out⟩
      · obtain rfl : k = m := by omega
        have hi2 : ¬ (k : Int) < (k : Int) := by omega
        have HR := Lib.hid hBr
        clear hne hBr
        go_wp2_with fail
        go_ret
        exact ⟨false, rfl, fun h => (by cases h), HR.out⟩
    · obtain rfl : k = n := by omega
      have hi1 : ¬ (k : Int) < (k : Int) := by omega
      have HR := Lib.hid hBr
      clear hne hBr
      go_wp2_with fail
      go_ret
      exact ⟨false, rfl, fun h => (by cases h), HR.out⟩
end Go.Proofs.Ytdnpcplboohdpaa
