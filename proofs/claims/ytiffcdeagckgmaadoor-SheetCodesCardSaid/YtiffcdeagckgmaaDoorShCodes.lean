/- codexlaw21.own; SheetCodes: the walk. -/
import Derived.Test.YtiffcdeagckgmaaDoorShRDec
namespace Go.Proofs.YtiffcdeagckgmaaDoor
set_option linter.unusedSimpArgs false
set_option linter.unusedVariables false
open Go.RowKit Go.ChangeShapes Go.WideShapes Go.Sort Go.Deep

def OwnP2 (w : World) (n : Nat) (l : List (LN × List PC)) (e : Ending) (w' : World) : Prop := ∃ A c l', e = .returned (.slice A n c) ∧ RnAt w' w'.heap.size A n c l' ∧ RSame l' l ∧ Below w.heap.size w w' ∧ c ≤ maxLen
set_option maxHeartbeats 16000000 in
set_option maxRecDepth 100000 in
theorem own_lines2 {A : Option Addr} {n c : Nat} {l : List (LN × List PC)} (w : World) (hl : RnAt w w.heap.size A n c l) (hn : n ≤ 1000000) (hp : ∀ r ∈ l, r.2.length ≤ 1000000) :
    Calls Tryd.prog 18 #[.slice A n c] w (OwnP2 w n l) := by
  have hln := hl.len
  have HL := Lib.hid (And.intro hl (And.intro hln hp))
  clear hl hln hp
  have hzE := lnZ
  obtain ⟨z, hz⟩ : ∃ z, (#[.int .i64 0, .bool false, .bool false, .bool false, .slice none 0 0] : Array Value) = z := ⟨_, rfl⟩
  have hz5 : z.size = 5 := by rw [← hz]; rfl
  rw [hz] at hzE
  clear hz
  go_enter Tryd.func18, Tryd.ntmps18
  go_wp2_with fail
  go_loopw [3, 4] (fun s3 s4 wr => ∃ (i : Nat) (A3 : Option Addr) (c3 : Nat), i ≤ n ∧ s3 = .slice A3 i c3 ∧ s4 = .int .i64 i ∧ Hid (∃ l', wr.ownsRow w.heap.size 45 5 (.slice A3 i c3) i (lns (lnsOf l')) ∧ Below w.heap.size w wr ∧ l'.length = i ∧ (∀ (k : Nat) (r s : LN × List PC), l'[k]? = some r → l[k]? = some s → SameR r s) ∧ PcsFar wr (Value.slice A3 i c3).ownBlock l')) (fun _ i _ => n - (intOf i).toNat)
  case atStart => exact ⟨0, none, 0, by omega, rfl, rfl, Lib.hid ⟨[], World.ownsRow_nil _ _ _ _, Below.refl _ _, rfl, fun k r s h => by simp at h, fun r hr => by cases hr⟩⟩
  case round =>
    obtain ⟨i, A3, c3, hi, rfl, rfl, HI⟩ := hrel
    by_cases hin : i < n
    · have hin' : (i : Int) < (n : Int) := by omega
      have hi0 : (0 : Int) ≤ (i : Int) := by omega
      have g1 : IntKind.i64.wrap ((i : Int) + 1) = ((i + 1 : Nat) : Int) := by rw [wrap_small _ (by omega) (by omega)]; omega
      obtain ⟨l', hown, hb, hlen, hsame, hfar⟩ := HI.out
      obtain ⟨⟨x, px⟩, hx⟩ : ∃ x, l[i]? = some x := ⟨_, List.getElem?_eq_getElem (by rw [HL.out.2.1]; exact hin)⟩
      have hpl := HL.out.2.2 _ (List.mem_of_getElem? hx)
      obtain ⟨b, o, A1, n1, c1, rfl, hbB, hxr, hpv, hpc⟩ := HL.out.1.entry hx
      simp only at hxr hpv hpc hpl
      have hone : x.One := by unfold LN.One; rw [hpv]; rfl
      have hxr1 := bRange hb hbB hxr
      have hob : b < wr.heap.size := by have := hb.size; omega
      have hn1 := hpc.len
      have ix := ln_linfo x
      have jx := ln_info x
      have ox := one_ln hone
      have hzs : z.size = x.cells.toArray.size := by rw [hz5]; rfl
      obtain ⟨Y, hY, y5, bY⟩ := newRow wr z x.cells.toArray 45
      have HZ := Lib.hid (And.intro hown (And.intro hb (And.intro hlen (And.intro hsame (And.intro hfar (And.intro hx (And.intro hpc hpv)))))))
      clear hown hb hlen hsame hfar hx hpc HI
      go_upto_region 6 with (first
        | (refine wpList_load_mid rfl 45 (.tmp 14) rfl b (o + i * 5) rfl x.cells _ hxr1 Tryd.underlying45 rfl ix ?_)
        | (refine wpList_new rfl hzE rfl ?_)
        | (refine wpList_store_row rfl 45 (.tmp 5) (.tmp 15) rfl _ x.cells.toArray rfl rfl _ z (heap_alloc_new _ _) jx hzs ox ?_)
        | fail)
      try rw [hY]
      clear hY hxr1 ix jx ox hzs
      obtain ⟨hown, hb, hlen, hsame, hfar, hx, hpc, hpv⟩ := HZ.out
      obtain ⟨e, he⟩ : ∃ q, wr.heap.size = q := ⟨_, rfl⟩
      have hbrY := bY
      rw [he] at y5 bY
      rw [he]
      have k4 : Y.cell? ⟨e, 4, none⟩ = some x.pv := blk_cell y5 rfl
      rw [hpv] at k4
      have heY : e < Y.heap.size := (Array.getElem?_eq_some_iff.1 y5).1
      have hpcY := hpc.nxt (bNext hb hbrY)
      refine wp_region_lit ?_
      refine wpList_slice0 rfl 43 0 #[] rfl (by simp only [List.map_toArray, List.map_nil]; exact hs0p Y) ?_
      (try simp only [Act.put, List.setIfInBounds_toArray, List.set_cons_zero, List.set_cons_succ])
      have hS0 : Below Y.heap.size Y (Y.alloc (.cells #[] 47)) := (Below.refl _ _).alloc (Nat.le_refl _) _
      have k4a := (hS0.cell (p := ⟨e, 4, none⟩) heY).trans k4
      iterate 6 (first | go_guarded | go_step)
      (try simp only [Act.put, List.setIfInBounds_toArray, List.set_cons_zero, List.set_cons_succ])
      refine wpList_app _ rfl (.tmp 16) (.tmp 18) 43 rfl (base := Y.heap.size) Tryd.underlying43 elemPc rfl (own_none' Y Y.heap.size 47 2 (Nat.le_refl _)) rfl (hpcY.sl.below hS0) (one_pcs _) (by simp only [maxLen]; omega) (by omega) hS0.size ?_
      intro A19 c19 w19 hown19 hg19 hb19 hat19
      simp only [Nat.zero_add, List.nil_append] at hown19 ⊢
      have hY19 := hS0.trans hb19
      (try simp only [Act.put, List.setIfInBounds_toArray, List.set_cons_zero, List.set_cons_succ])
      have r5 := bBlk hY19 heY y5
      have k4b : w19.cell? ⟨e, 4, none⟩ = some (.slice A1 n1 c1) := by rw [← hpv]; exact blk_cell r5 rfl
      have f4b := blk_frozen r5 4
      have he19 : e < w19.heap.size := (Array.getElem?_eq_some_iff.1 r5).1
      have HW := Lib.hid (And.intro hown (And.intro hb (And.intro hlen (And.intro hsame (And.intro hfar (And.intro hx (And.intro hpc (And.intro hpv (And.intro hbrY (And.intro hown19 (And.intro hY19 r5)))))))))))
      clear hown hb hlen hsame hfar hx hpc hpv hbrY hown19 hg19 hb19 hat19 hY19 r5 HZ k4 k4a hS0 hpcY y5 bY
      go_upto_region 7 with (fail)
      obtain ⟨U, hU⟩ : ∃ q, w19.setCell ⟨e, 4, none⟩ (.slice A19 n1 c19) = q := ⟨_, rfl⟩
      rw [hU]
      obtain ⟨hown, hb, hlen, hsame, hfar, hx, hpc, hpv, hbrY, hown19, hY19, r5⟩ := HW.out
      obtain ⟨x', hx'⟩ : ∃ q : LN, { x with pv := .slice A19 n1 c19 } = q := ⟨_, rfl⟩
      have u5 : U.heap[e]? = some (.cells x'.cells.toArray 45) := by rw [← hU, ← hx']; exact blk_set r5 4 _
      have hbU : Below wr.heap.size wr U := by rw [← hU]; exact (bNext hbrY hY19).setCell (p := ⟨e, 4, none⟩) (by show _ ≤ e; omega) _
      have hownU := own_below hown hbU
      have hlt3 := hown.lt
      have hfarU := hfar.nxt hbU
      have hbwU := bNext hb hbU
      have hge19 := own_ge hown19
      have hlt19 := hown19.lt
      obtain ⟨_, _, e19, hcap19, hm19⟩ := own_form hown19
      cases e19
      have hpcW : PcAt w19 w19.heap.size A19 n1 c19 px := ⟨hpc.wide, hn1, Sl.of_own hown19, hcap19, hm19⟩
      have hpcU : PcAt U U.heap.size A19 n1 c19 px := by
        refine ⟨hpcW.wide, hpcW.len, ⟨hpcW.sl.len, fun h0 => ?_⟩, hpcW.cap, hpcW.most⟩
        obtain ⟨b', o', e', hlt, hr⟩ := hpcW.sl.at_ h0
        have hne : b' ≠ e := by have := hge19 b' (by rw [e']; rfl); omega
        refine ⟨b', o', e', by rw [← hU, World.size_setCell]; exact hlt, fun j v hj => ?_⟩
        rw [← hU]
        exact (World.cell?_of_block (a := ⟨b', o' + j, none⟩) (Below.heap_setCell _ ⟨e, 4, none⟩ _ b' hne)).trans (hr j v hj)
      have hfar19 : ∀ b o i', A19 = some ⟨b, o, i'⟩ → (Value.slice A3 i c3).ownBlock ≠ some b ∧ b < U.heap.size := fun b' o' i' e' => by
        have h1 := hge19 b' (by rw [e']; rfl)
        have h2 := (hlt19 b' (by rw [e']; rfl)).2
        refine ⟨fun h3 => ?_, by rw [← hU, World.size_setCell]; exact h2⟩
        have h4 := (hlt3 b' h3).2
        have := hbrY.size
        omega
      have hone' : x'.One := by unfold LN.One; rw [← hx']; rfl
      have hxc1 := one_ln hone'
      have hxc2 : ∀ u ∈ x'.cells, u.oneCell' = true := fun u hu => by
        have := one_lns (l := [x']) (fun y hy => by rw [List.mem_singleton.1 hy]; exact hone') u
        exact this (by simpa [lns] using hu)
      have hsm : SameR (x', px) (x, px) := by rw [← hx']; exact ⟨rfl, rfl, rfl, rfl, rfl⟩
      have hpv' : x'.pv = .slice A19 n1 c19 := by rw [← hx']
      have jx' := ln_info x'
      have hs1 := fun W => run_slice1 (P := Tryd.prog) (t := 22) lnZ Tryd.underlying22 (s := 5) rfl (by omega) (by omega) x'.cells rfl W
      have HQ := Lib.hid (And.intro hlen (And.intro hsame (And.intro hx (And.intro hpv' hsm))))
      clear hx' hown hb hlen hsame hfar hx hpc hpv hbrY hown19 hY19 r5 hU hbU hlt3 hge19 hlt19 hcap19 hm19 hpcW hone' hsm hpv' HW k4b f4b he19 heY
      obtain ⟨xc, hxc⟩ : ∃ q, x'.cells = q := ⟨_, rfl⟩
      have hxcl : xc.length = 5 := by rw [← hxc]; rfl
      rw [hxc] at u5 hxc1 hxc2 jx'
      simp only [hxc] at hs1
      refine wp_region_lit ?_
      iterate 3 (first | go_guarded | go_step)
      refine wpList_load_row rfl 45 (.tmp 5) rfl _ rfl _ xc.toArray (0, 0) _ u5 Tryd.underlying45 rfl jx' ?_
      (try simp only [Act.put, List.setIfInBounds_toArray, List.set_cons_zero, List.set_cons_succ])
      refine wpList_slice0 rfl 22 1 #[(0, .tmp 22)] rfl (by simp only [List.map_toArray, List.map_cons, List.map_nil]; exact hs1 U) ?_
      (try simp only [Act.put, List.setIfInBounds_toArray, List.set_cons_zero, List.set_cons_succ])
      have hbA : Below U.heap.size U (U.alloc (.cells xc.toArray 45)) := (Below.refl _ _).alloc (Nat.le_refl _) _
      have hwU := hbwU.size
      refine wpList_app _ rfl (.tmp 21) (.tmp 23) 22 rfl (base := w.heap.size) Tryd.underlying22 elemLn rfl (hownU.alloc _) rfl (Sl.new (n := 1) (heap_alloc_new _ _) (by simpa using hxcl)) hxc2 (by simp only [maxLen]; omega) (by omega) (by have := hbA.size; omega) ?_
      intro A24 c24 w24 hown24 hg24 hb24 hat24
      have hfar24 : PcsFar w24 (Value.slice A24 (i + 1) c24).ownBlock (l' ++ [(x', px)]) := by
        refine PcsFar.grown (w := U.alloc (.cells xc.toArray 45)) ?_ hg24 hat24
        exact (pcs_snoc hfarU (r := (x', px)) HQ.out.2.2.2.1 hpcU hfar19).nxt hbA
      have hbw24 := (bNext hbwU hbA).trans hb24
      have hown24' : w24.ownsRow w.heap.size 45 5 (.slice A24 (i + 1) c24) (i + 1) (lns (lnsOf (l' ++ [(x', px)]))) := by
        have e1 : lns (lnsOf (l' ++ [(x', px)])) = lns (lnsOf l') ++ xc := by
          unfold lnsOf; rw [List.map_append, lns_append, ← hxc]; simp [lns]
        rw [e1]
        exact hown24
      have HR := Lib.hid (And.intro hown24' (And.intro hbw24 hfar24))
      clear hown24 hown24' hg24 hb24 hat24 hfar24 hbw24 hbA hwU hownU hfarU hbwU hpcU hfar19 u5 hxc1 hxc2 jx' hs1
      (try simp only [Act.put, List.setIfInBounds_toArray, List.set_cons_zero, List.set_cons_succ])
      go_wp2_with fail
      go_roundw
      case rel =>
        refine ⟨i + 1, A24, c24, by omega, rfl, by go_num, Lib.hid ⟨l' ++ [(x', px)], HR.out.1, HR.out.2.1, by rw [List.length_append, HQ.out.1]; rfl, fun k r s h1 h2 => ?_, HR.out.2.2⟩⟩
        rcases Nat.lt_or_ge k i with h3 | h3
        · rw [List.getElem?_append_left (by rw [HQ.out.1]; exact h3)] at h1
          exact HQ.out.2.1 k r s h1 h2
        · rw [List.getElem?_append_right (by rw [HQ.out.1]; exact h3), HQ.out.1] at h1
          have hk : k - i = 0 := by
            rcases Nat.eq_zero_or_pos (k - i) with h4 | h4
            · exact h4
            · rw [List.getElem?_eq_none (by simp; omega)] at h1; cases h1
          obtain rfl : k = i := by omega
          rw [hk] at h1
          cases h1
          rw [HQ.out.2.2.1] at h2
          cases h2
          exact HQ.out.2.2.2.2
      case measure => simp [intOf]; omega
    · obtain rfl : i = n := by omega
      have hin' : ¬ (i : Int) < (i : Int) := by omega
      go_wp2_with fail
      go_ret
      obtain ⟨l', hown, hb, hlen, hsame, hfar⟩ := HI.out
      have hcm : c3 ≤ maxLen := by obtain ⟨_, _, e, -, h⟩ := own_form hown; cases e; exact h
      refine ⟨A3, c3, l', rfl, ⟨own_ln hown (by unfold lnsOf; rw [List.length_map, hlen]) (fun x hx => ?_), fun r hr => ?_⟩, ⟨by rw [hlen, HL.out.2.1], hsame⟩, hb, hcm⟩
      · unfold lnsOf at hx
        obtain ⟨r, hr, rfl⟩ := List.mem_map.1 hx
        obtain ⟨k, hk, rfl⟩ := List.getElem_of_mem hr
        have hk2 : k < l.length := by rw [HL.out.2.1]; omega
        have := hsame k _ _ (List.getElem?_eq_getElem hk) (List.getElem?_eq_getElem hk2)
        rw [this.kind]
        exact HL.out.1.ln.wide _ (by unfold lnsOf; exact List.mem_map.2 ⟨_, List.getElem_mem hk2, rfl⟩)
      · obtain ⟨A', n', c', h1, h2, -⟩ := hfar r hr
        exact ⟨A', n', c', h1, h2⟩
theorem sl_set {w : World} {B sz n g k j : Nat} {A : Option Addr} {xs : List Value} {cs : Array Value} {T : TypeId} {v u : Value} (h : Sl w B sz A n xs) (hg : w.heap[g]? = some (.cells cs T)) (hu : 0 < n → xs[j]? = some u ∧ ∀ o : Nat, cs[o + j]? ≠ some u) : Sl (w.setCell ⟨g, k, none⟩ v) B sz A n xs := by
  refine ⟨h.len, fun h0 => ?_⟩
  obtain ⟨b, o, e, hb, hr⟩ := h.at_ h0
  have hne : b ≠ g := fun e2 => by
    subst e2
    obtain ⟨h1, h2⟩ := hu h0
    have h3 := hr j u h1
    have hbl := (Array.getElem?_eq_some_iff.1 hg).1
    cases h4 : cs[o + j]? with
    | some q =>
      have h5 : w.cell? ⟨b, o + j, none⟩ = some q := blk_cell hg h4
      rw [h5] at h3
      exact h2 o (by rw [h4, h3])
    | none =>
      have h5 : w.cell? ⟨b, o + j, none⟩ = none := by simp [World.cell?, hg, h4]
      rw [h5] at h3
      cases h3
  exact ⟨b, o, e, hb, fun i q hq => (World.cell?_of_block (a := ⟨b, o + i, none⟩) (Below.heap_setCell _ ⟨g, k, none⟩ _ b hne)).trans (hr i q hq)⟩
theorem sh_no {num : Int} {A : Option Addr} {n c : Nat} {u : Value} (hu : (∃ b, u = .bool b) ∨ ∃ s, u = .string s) : ∀ o : Nat, (#[.int .i64 num, .slice A n c] : Array Value)[o + 1]? ≠ some u := fun o h => by
  match o with
  | 0 => rcases hu with ⟨b, rfl⟩ | ⟨s, rfl⟩ <;> simp at h
  | o + 1 => simp at h
theorem RnAt.set {w : World} {B g k n0 c0 n c : Nat} {A0 A : Option Addr} {num : Int} {v : Value} {l : List (LN × List PC)} (h : RnAt w B A n c l) (hg : w.heap[g]? = some (.cells #[.int .i64 num, .slice A0 n0 c0] 24)) : RnAt (w.setCell ⟨g, k, none⟩ v) B A n c l := by
  refine ⟨⟨h.ln.len, ?_, h.ln.cap, h.ln.wide⟩, fun r hr => ?_⟩
  · by_cases h0 : 0 < n
    · match hlx : lnsOf l, h.ln.len with
      | [], h1 => simp at h1; omega
      | x :: t, h1 => exact sl_set (j := 1) (u := .bool x.first) (by have := h.ln.sl; rwa [hlx] at this) hg (fun _ => ⟨rfl, sh_no (.inl ⟨_, rfl⟩)⟩)
    · exact ⟨h.ln.sl.len, fun h1 => absurd h1 h0⟩
  · obtain ⟨A', n', c', h1, h2⟩ := h.pc r hr
    refine ⟨A', n', c', h1, ⟨h2.wide, h2.len, ?_, h2.cap, h2.most⟩⟩
    by_cases h0 : 0 < n'
    · match hlx : r.2, h2.len with
      | [], h3 => simp at h3; omega
      | x :: t, h3 => exact sl_set (j := 1) (u := .string x.s) (by have := h2.sl; rwa [hlx] at this) hg (fun _ => ⟨rfl, sh_no (.inr ⟨_, rfl⟩)⟩)
    · exact ⟨h2.sl.len, fun h3 => absurd h3 h0⟩
def OwnS (w : World) (num : Int) (l : List (LN × List PC)) (n : Nat) (e : Ending) (w' : World) : Prop := ∃ A c l', e = .returned (.agg #[.int .i64 num, .slice A n c]) ∧ RnAt w' w'.heap.size A n c l' ∧ c ≤ maxLen ∧ RSame l' l ∧ Below w.heap.size w w'
set_option maxRecDepth 100000 in
set_option maxHeartbeats 4000000 in
theorem own_any {A : Option Addr} {n c : Nat} {num : Int} {l : List (LN × List PC)} (w : World) (hl : RnAt w w.heap.size A n c l) (hn : n ≤ 1000000) (hp : ∀ r ∈ l, r.2.length ≤ 1000000) :
    Calls Tryd.prog 9 #[.agg #[.int .i64 num, .slice A n c]] w (OwnS w num l n) := by
  obtain ⟨W0, hW0⟩ : ∃ q, (w.alloc (.cells #[.int .i64 num, .slice A n c] 24)).alloc (.cells #[.int .i64 0, .slice none 0 0] 24) = q := ⟨_, rfl⟩
  have b0 : Below w.heap.size w W0 := by rw [← hW0]; exact ((Below.refl _ _).alloc (Nat.le_refl _) _).alloc (by simp) _
  have r0 : W0.heap[w.heap.size]? = some (.cells #[.int .i64 num, .slice A n c] 24) := by
    rw [← hW0]; exact (Below.heap_alloc _ _ _ (by simp)).trans (heap_alloc_new _ _)
  have r1 : W0.heap[w.heap.size + 1]? = some (.cells #[.int .i64 0, .slice none 0 0] 24) := by rw [← hW0]; exact heap_alloc_new2 _ _ _
  have hO := own_lines2 W0 (hl.nxt b0) hn hp
  have HO := Lib.hid hO
  have HW := Lib.hid hW0
  have k1 : W0.cell? ⟨w.heap.size, 1, none⟩ = some (.slice A n c) := blk_cell r0 rfl
  have hz1 := (Array.getElem?_eq_some_iff.1 r1).1
  have HR := Lib.hid (And.intro b0 (And.intro r0 r1))
  clear hl hp hO hW0 b0 r0 r1
  go_enter Tryd.func9, Tryd.ntmps9
  go_upto_region 1 with (fail)
  rw [HW.out]
  clear HW
  go_wp2_with fail
  refine Calls.mono HO.out ?_
  rintro e w1 ⟨A1, c1, l1, rfl, hr1, hsm, b1, hc1⟩
  have q0 := bBlk b1 (by omega) HR.out.2.1
  have q1 := bBlk b1 hz1 HR.out.2.2
  have x0 : w1.cell? ⟨w.heap.size, 0, none⟩ = some (.int .i64 num) := blk_cell q0 rfl
  have x1 : w1.cell? ⟨w.heap.size, 1, none⟩ = some (.slice A n c) := blk_cell q0 rfl
  have x2 : w1.cell? ⟨w.heap.size + 1, 0, none⟩ = some (.int .i64 0) := blk_cell q1 rfl
  have x3 : w1.cell? ⟨w.heap.size + 1, 1, none⟩ = some (.slice none 0 0) := blk_cell q1 rfl
  have f1 := blk_frozen q0 1
  have f2 := blk_frozen q1 0
  have f3 := blk_frozen q1 1
  have s0 := blk_set q0 1 (.slice A1 n c1)
  have s1 := blk_far q1 (p := ⟨w.heap.size, 1, none⟩) (.slice A1 n c1) (by show w.heap.size + 1 ≠ w.heap.size; omega)
  have u1 := hr1.set (k := 1) (v := .slice A1 n c1) q0
  have u2 := u1.set (k := 0) (v := .int .i64 num) s1
  have s2 := blk_set s1 0 (.int .i64 num)
  have u3 := u2.set (k := 1) (v := .slice A1 n c1) (num := num) (A0 := none) (n0 := 0) (c0 := 0) s2
  have s3 := blk_set s2 1 (.slice A1 n c1)
  have hbb : Below w.heap.size w (((w1.setCell ⟨w.heap.size, 1, none⟩ (.slice A1 n c1)).setCell ⟨w.heap.size + 1, 0, none⟩ (.int .i64 num)).setCell ⟨w.heap.size + 1, 1, none⟩ (.slice A1 n c1)) := (((bNext HR.out.1 b1).setCell (Nat.le_refl _) _).setCell (by show w.heap.size ≤ w.heap.size + 1; omega) _).setCell (by show w.heap.size ≤ w.heap.size + 1; omega) _
  have HF := Lib.hid (And.intro u3 (And.intro s3 (And.intro hbb (And.intro hsm hc1))))
  clear q0 q1 s0 s1 s2 s3 u1 u2 u3 hbb hr1 hsm hc1 b1 k1
  go_wp2_with fail
  have jx := sh_size
  refine bodyPost_ret (results_cell_row Tryd.results9 _ _ (w.heap.size + 1) 24 _ (0, 0) _ ?_ HF.out.2.1 Tryd.underlying24 rfl jx) rfl ?_
  · rfl
  exact ⟨A1, c1, l1, rfl, by simpa using HF.out.1, HF.out.2.2.2.2, HF.out.2.2.2.1, HF.out.2.2.1⟩
attribute [-go_sem] Builtin.append_
set_option maxRecDepth 100000 in
set_option maxHeartbeats 16000000 in
theorem sheetCodes_walk {H : Type} {enc : TypeId × Value → H} {W : World} {base : Nat} {v0 v1 : Value} {d0 d1 : DataW H} {p0 p1 : List MemPlace}
    (k0 : Value.okWide Tryd.prog W .any base 24 v0) (h0 : DataW.Trod enc Tryd.prog W 0 (fun _ => true) true 24 v0 d0 p0)
    (k1 : Value.okWide Tryd.prog W .any base 25 v1) (h1 : DataW.Trod enc Tryd.prog W 0 (fun _ => true) true 25 v1 d1 p1) (hT : Tabs W)
    : Calls Tryd.prog 3 #[v0, v1] W fun e W' => e = .returned (.bool true) ∧ Below W.heap.size W W' := by
  obtain ⟨num, A, n, c, l, rfl, hnum, hl, hc⟩ := open_sheet k0 h0
  obtain ⟨Ab, nb, cb, bb, rfl, hbl, hbc, hbm, -, hbs⟩ := open_bytes_sl Tryd.underlying25 Tryd.underlying5 (by kernel_rfl) k1 h1
  clear k0 h0 k1 h1
  have hm9 := hc
  have hm8 := hbm
  simp only [maxLen] at hm9 hm8
  have HT := Lib.hid hT
  have HL := Lib.hid (And.intro hl hc)
  have HB0 := Lib.hid (And.intro hbl (And.intro hbm hbs))
  clear hl hc hT hbl hbm hbs
  go_enter Tryd.func3, Tryd.ntmps3
  go_wp2_with fail
  obtain ⟨W0, hW0⟩ : ∃ q, W.alloc (.cells #[.int .i64 num, .slice A n c] 24) = q := ⟨_, rfl⟩
  have r0 : W0.heap[W.heap.size]? = some (.cells #[.int .i64 num, .slice A n c] 24) := by rw [← hW0]; exact heap_alloc_new _ _
  have b0 : Below W.heap.size W W0 := by rw [← hW0]; exact (Below.refl _ _).alloc (Nat.le_refl _) _
  rw [hW0]
  clear hW0
  have hz0 := (Array.getElem?_eq_some_iff.1 r0).1
  have HW0 := Lib.hid (And.intro r0 b0)
  clear r0 b0
  refine Calls.mono (fair_any W0 (HL.out.1.nxt HW0.out.2) HL.out.2) ?_
  rintro e w1 ⟨fb, rfl, hfn, b1⟩
  have hW1 := bNext HW0.out.2 b1
  have r1 := bBlk b1 hz0 HW0.out.1
  have HFN := Lib.hid hfn
  clear hfn
  cases fb
  · have HB := Lib.hid hW1
    clear hW1 r1 b1
    go_wp2_with fail
    refine Calls.mono (wakes_any _ (HT.out.below HB.out)) ?_
    rintro e w2 ⟨rfl, b2⟩
    have HB2 := Lib.hid (bNext HB.out b2)
    clear b2
    go_wp2_with fail
    go_ret
    exact ⟨rfl, HB2.out⟩
  · by_cases hlong : 2000 < nb
    · have z9 : (2000 : Int) < nb := by omega
      have HB := Lib.hid hW1
      clear hW1 r1 b1
      go_wp2_with fail
      refine Calls.mono (wakes_any _ (HT.out.below HB.out)) ?_
      rintro e w2 ⟨rfl, b2⟩
      have HB2 := Lib.hid (bNext HB.out b2)
      clear b2
      go_wp2_with fail
      go_ret
      exact ⟨rfl, HB2.out⟩
    · have z9 : ¬ (2000 : Int) < nb := by omega
      have k0 : w1.cell? ⟨W.heap.size, 0, none⟩ = some (.int .i64 num) := blk_cell r1 rfl
      have k1 : w1.cell? ⟨W.heap.size, 1, none⟩ = some (.slice A n c) := blk_cell r1 rfl
      have hz1 := (Array.getElem?_eq_some_iff.1 r1).1
      obtain ⟨hfn, hfp⟩ := HFN.out rfl
      have hO := own_any (num := num) w1 (HL.out.1.nxt hW1) (by omega) (fun r hr => by have := hfp r hr; omega)
      have HO := Lib.hid hO
      have HB := Lib.hid (And.intro hW1 r1)
      have HFP := Lib.hid hfp
      clear hO hW1 r1 b1 hfp
      go_wp2_with fail
      refine Calls.mono HO.out ?_
      rintro e w2 ⟨A1, c1, l1, rfl, hr1, hc1, hsm1, b2⟩
      obtain ⟨W3, hW3⟩ : ∃ q, w2.alloc (.cells #[.int .i64 num, .slice A1 n c1] 24) = q := ⟨_, rfl⟩
      have hw2 := bNext HB.out.1 b2
      have b23 : Below w2.heap.size w2 W3 := by rw [← hW3]; exact (Below.refl _ _).alloc (Nat.le_refl _) _
      have r5 : W3.heap[w2.heap.size]? = some (.cells #[.int .i64 num, .slice A1 n c1] 24) := by rw [← hW3]; exact heap_alloc_new _ _
      obtain ⟨g5, hg5⟩ : ∃ q, w2.heap.size = q := ⟨_, rfl⟩
      rw [hg5] at r5
      have HW3 := Lib.hid (And.intro hW3 hg5)
      have hb3 := bNext b2 b23
      have hW3b := bNext hw2 b23
      have r2 := bBlk hb3 hz1 HB.out.2
      have hz5 : g5 < W3.heap.size := (Array.getElem?_eq_some_iff.1 r5).1
      have hz2 : W.heap.size < W3.heap.size := (Array.getElem?_eq_some_iff.1 r2).1
      have y0 : W3.cell? ⟨g5, 0, none⟩ = some (.int .i64 num) := blk_cell r5 rfl
      have y1 : W3.cell? ⟨g5, 1, none⟩ = some (.slice A1 n c1) := blk_cell r5 rfl
      have hE : ∃ er : Int, (er = 0 ∧ GoodP num l ∨ er = 11 ∧ ¬ GoodP num l) ∧ Calls Tryd.prog 10 #[.agg #[.int .i64 num, .slice A1 n c1]] W3 (EncP W3 (if er = 0 then encB num l else []) er) := by
        by_cases hgood : GoodP num l
        · have := enc_yes hnum W3 (hr1.nxt b23) hc1 (HT.out.below hW3b) (hgood.same hsm1.symm)
          rw [encB_same hsm1] at this
          exact ⟨0, .inl ⟨rfl, hgood⟩, this⟩
        · exact ⟨11, .inr ⟨rfl, hgood⟩, enc_not hnum W3 (hr1.nxt b23) hc1 (HT.out.below hW3b) (fun h => hgood (h.same hsm1))⟩
      obtain ⟨er, hcase, hE⟩ := hE
      obtain ⟨xb, hxb⟩ : ∃ q, (if er = 0 then encB num l else []) = q := ⟨_, rfl⟩
      rw [hxb] at hE
      have HE := Lib.hid hE
      have HG := Lib.hid (And.intro hcase hxb)
      have HK := Lib.hid (And.intro hW3b (And.intro r2 (And.intro r5 (And.intro (hr1.nxt b23) (And.intro hsm1 hc1)))))
      clear hE hcase hxb hW3 hg5 hw2 b23 r5 hb3 hW3b r2 hr1 hc1 hsm1 b2 k0 k1 HO
      go_upto_region 4 with (fail)
      rw [HW3.out.1, HW3.out.2]
      clear HW3
      go_wp2_with fail
      refine Calls.mono HE.out ?_
      rintro e w4 ⟨A4, n4, c4, rfl, -, hnc4, hcm4, -, hsl4, b4⟩
      have hw4 := bNext HK.out.1 b4
      have r24 := bBlk b4 hz2 HK.out.2.1
      have j0 : w4.cell? ⟨W.heap.size, 0, none⟩ = some (.int .i64 num) := blk_cell r24 rfl
      have j1 : w4.cell? ⟨W.heap.size, 1, none⟩ = some (.slice A n c) := blk_cell r24 rfl
      have hRE : Calls Tryd.prog 11 #[.agg #[.int .i64 num, .slice A n c]] w4 (EncP w4 xb er) := by
        refine (renc_any hnum w4 (HL.out.1.nxt hw4) HL.out.2 (by omega)).mono ?_
        obtain ⟨hcase, hxb⟩ := HG.out
        rintro e w' (⟨g, h⟩ | ⟨g, h⟩)
        · rcases hcase with ⟨rfl, -⟩ | ⟨-, g2⟩
          · rw [← hxb, if_pos rfl]; exact h
          · exact absurd g g2
        · rcases hcase with ⟨-, g2⟩ | ⟨rfl, -⟩
          · exact absurd g2 g
          · rw [← hxb, if_neg (by omega)]; exact h
      have HRE := Lib.hid hRE
      have HK4 := Lib.hid (And.intro hsl4 b4)
      clear hRE hsl4 b4 hw4 r24 y0 y1 HE
      go_wp2_with fail
      refine Calls.mono HRE.out ?_
      rintro e w5 ⟨A5, n5, c5, rfl, -, hnc5, hcm5, -, hsl5, b5⟩
      have hb35 := bNext HK4.out.2 b5
      have hsl45 := HK4.out.1.next b5
      have HK5 := Lib.hid (And.intro hb35 (And.intro hsl45 hsl5))
      clear hb35 hsl45 hsl5 b5 j0 j1 HRE
      go_upto_region 6 with (fail)
      have hW5b := bNext HK.out.1 HK5.out.1
      have hx6 : Sl (w5.alloc (.cells #[] 5)) (w5.alloc (.cells #[] 5)).heap.size 1 Ab nb (bvs bb) := HB0.out.2.2.next (hW5b.alloc hW5b.size _)
      have ho6 := own_none' w5 w5.heap.size 5 1 (Nat.le_refl _)
      have hs6 : w5.heap.size ≤ (w5.alloc (.cells #[] 5)).heap.size := by simp
      have HW5 := Lib.hid hW5b
      clear hW5b
      go_wp2_with (first
        | (refine wpList_app _ rfl (.tmp 37) (.tmp 38) 25 rfl (base := w5.heap.size) Tryd.underlying25 elemC rfl ho6 rfl hx6 (oneCell_bvs _) (by simp only [maxLen]; omega) (by omega) hs6 ?_)
        | fail)
      intro A39 c39 w39 hown39 hg39 hb39 hat39
      have hB39 : Below w5.heap.size w5 w39 := ((Below.refl _ _).alloc (Nat.le_refl _) _).trans hb39
      obtain ⟨_, _, e39, hc39, hm39⟩ := own_form hown39
      cases e39
      have hw39 := bNext HW5.out hB39
      have hsl39 := Sl.of_own hown39
      have hD := dec_any (bb := bb) w39 (by simpa using hsl39) hc39 hm39 (by omega) (HT.out.below hw39)
      have HD := Lib.hid hD
      have HK6 := Lib.hid (And.intro hB39 hw39)
      clear hx6 ho6 hs6 hown39 hg39 hb39 hat39 hB39 hw39 hD hc39 hm39 hsl39
      (try simp only [Act.put, List.setIfInBounds_toArray, List.set_cons_zero, List.set_cons_succ])
      go_wp2_with fail
      refine Calls.mono HD.out ?_
      rintro e w6 ⟨numT, AT, nT, cT, lT, erT, rfl, b6, hrT, hcT, -, -, hddT⟩
      obtain ⟨W7, hW7⟩ : ∃ q, w6.alloc (.cells #[.int .i64 numT, .slice AT nT cT] 24) = q := ⟨_, rfl⟩
      have b67 : Below w6.heap.size w6 W7 := by rw [← hW7]; exact (Below.refl _ _).alloc (Nat.le_refl _) _
      have r10 : W7.heap[w6.heap.size]? = some (.cells #[.int .i64 numT, .slice AT nT cT] 24) := by rw [← hW7]; exact heap_alloc_new _ _
      obtain ⟨g10, hg10⟩ : ∃ q, w6.heap.size = q := ⟨_, rfl⟩
      rw [hg10] at r10
      have HW7 := Lib.hid (And.intro hW7 hg10)
      have hb57 := (bNext HK6.out.1 b6)
      have hb57 := bNext hb57 b67
      have hw7 := bNext HW5.out hb57
      have hz10 : g10 < W7.heap.size := (Array.getElem?_eq_some_iff.1 r10).1
      have hRD := rdec_any (bb := bb) W7 (HB0.out.2.2.next hw7) hbc HB0.out.2.1 (by omega)
      have HRD := Lib.hid hRD
      have HK7 := Lib.hid (And.intro hb57 (And.intro hw7 (And.intro r10 (And.intro (hrT.nxt b67) hcT))))
      clear hW7 hg10 b67 r10 hb57 hw7 hRD hrT hcT b6 HD
      go_upto_region 7 with (fail)
      rw [HW7.out.1, HW7.out.2]
      clear HW7
      go_wp2_with fail
      refine Calls.mono HRD.out ?_
      rintro e w8 ⟨numU, AU, nU, cU, lU, erU, rfl, b8, hrU, hcU, -, -, hddU⟩
      have htu : numT = numU ∧ erT = erU ∧ RSame lT lU ∧ lT.length ≤ 20 := by
        rcases hddT with ⟨rfl, h1, h2, h3⟩ | ⟨rfl, h1, h2, -, -, -, h3⟩
        · rcases hddU with ⟨rfl, k1, k2, k3⟩ | ⟨rfl, k1, -⟩
          · exact ⟨by rw [h2, k2], rfl, h3.trans k3.symm, by rw [h3.len]; exact h1.1.1.1.2.2⟩
          · exact absurd h1 k1
        · rcases hddU with ⟨rfl, k1, -⟩ | ⟨rfl, k1, k2, -, -, -, k3⟩
          · exact absurd k1 h1
          · exact ⟨by rw [h2, k2], rfl, by rw [h3, k3]; exact RSame.refl _, by rw [h3]; simp⟩
      obtain ⟨rfl, rfl, hsTU, hlT⟩ := htu
      obtain ⟨W9, hW9⟩ : ∃ q, w8.alloc (.cells #[.int .i64 numT, .slice AU nU cU] 24) = q := ⟨_, rfl⟩
      have b89 : Below w8.heap.size w8 W9 := by rw [← hW9]; exact (Below.refl _ _).alloc (Nat.le_refl _) _
      have r12 : W9.heap[w8.heap.size]? = some (.cells #[.int .i64 numT, .slice AU nU cU] 24) := by rw [← hW9]; exact heap_alloc_new _ _
      obtain ⟨g12, hg12⟩ : ∃ q, w8.heap.size = q := ⟨_, rfl⟩
      rw [hg12] at r12
      have HW9 := Lib.hid (And.intro hW9 hg12)
      have hb79 := bNext b8 b89
      have hb59 := bNext HK7.out.1 hb79
      have hb39 := bNext HK5.out.1 hb59
      have hw9 := bNext HW5.out hb59
      have q10 := bBlk hb79 hz10 HK7.out.2.2.1
      have q5 := bBlk hb39 hz5 HK.out.2.2.1
      have q2 := bBlk hb39 hz2 HK.out.2.1
      have hz12 : g12 < W9.heap.size := (Array.getElem?_eq_some_iff.1 r12).1
      have hz10' : g10 < W9.heap.size := (Array.getElem?_eq_some_iff.1 q10).1
      have hz5' : g5 < W9.heap.size := (Array.getElem?_eq_some_iff.1 q5).1
      have hz2' : W.heap.size < W9.heap.size := (Array.getElem?_eq_some_iff.1 q2).1
      have hby := bytes_eqT (c := c4) (c' := c5) W9 (HK5.out.2.1.next hb59) (HK5.out.2.2.next hb59)
      have HBY := Lib.hid hby
      have HK9 := Lib.hid (And.intro hw9 (And.intro q2 (And.intro q5 (And.intro q10 (And.intro r12 (And.intro (HK.out.2.2.2.1.nxt hb39) (And.intro ((HK7.out.2.2.2.1).nxt hb79) (And.intro (hrU.nxt b89) (And.intro hsTU hlT)))))))))
      clear hW9 hg12 b89 r12 hb79 hb59 hb39 hw9 q10 q5 q2 hby hrU hsTU hlT b8 hddT hddU HRD
      go_upto_region 8 with (fail)
      rw [HW9.out.1, HW9.out.2]
      clear HW9
      have y0 : W9.cell? ⟨g5, 0, none⟩ = some (.int .i64 num) := blk_cell HK9.out.2.2.1 rfl
      have y1 : W9.cell? ⟨g5, 1, none⟩ = some (.slice A1 n c1) := blk_cell HK9.out.2.2.1 rfl
      have hG : ∃ gq : Bool, gq = (er == 0) ∧ Calls Tryd.prog 15 #[.agg #[.int .i64 num, .slice A1 n c1]] W9 (Ret W9 (.bool gq)) := by
        obtain ⟨hcase, -⟩ := HG.out
        rcases hcase with ⟨rfl, g⟩ | ⟨rfl, g⟩
        · exact ⟨true, rfl, good_yes hnum W9 HK9.out.2.2.2.2.2.1 HK.out.2.2.2.2.2 (HT.out.below HK9.out.1) (g.same HK.out.2.2.2.2.1.symm)⟩
        · exact ⟨false, rfl, good_no hnum W9 HK9.out.2.2.2.2.2.1 HK.out.2.2.2.2.2 (HT.out.below HK9.out.1) (fun h => g (h.same HK.out.2.2.2.2.1))⟩
      obtain ⟨gq, hgq, hG⟩ := hG
      subst hgq
      have HGG := Lib.hid hG
      clear hG
      go_wp2_with fail
      refine Calls.mono HBY.out ?_
      rintro e wb ⟨rfl, rfl⟩
      go_wp2_with fail
      refine Calls.mono HGG.out ?_
      rintro e wg ⟨rfl, bg⟩
      obtain ⟨hw9, q2, q5, q10, q12, hr1, hrT, hrU, hsTU, hlT⟩ := HK9.out
      have x0 : wg.cell? ⟨g10, 0, none⟩ = some (.int .i64 numT) := blk_cell (bBlk bg hz10' q10) rfl
      have x1 : wg.cell? ⟨g10, 1, none⟩ = some (.slice AT nT cT) := blk_cell (bBlk bg hz10' q10) rfl
      have x2 : wg.cell? ⟨g12, 0, none⟩ = some (.int .i64 numT) := blk_cell (bBlk bg hz12 q12) rfl
      have x3 : wg.cell? ⟨g12, 1, none⟩ = some (.slice AU nU cU) := blk_cell (bBlk bg hz12 q12) rfl
      have hz10g : g10 < wg.heap.size := by have := bg.size; omega
      have hz12g : g12 < wg.heap.size := by have := bg.size; omega
      have hz5g : g5 < wg.heap.size := by have := bg.size; omega
      have hz2g : W.heap.size < wg.heap.size := by have := bg.size; omega
      have hnT : nT ≤ 1000000 := by have := hrT.len; omega
      have HKg := Lib.hid (And.intro (bNext hw9 bg) (And.intro (bBlk bg hz2' q2) (And.intro (bBlk bg hz5' q5) (And.intro (hr1.nxt bg) (And.intro (hrT.nxt bg) (And.intro (hrU.nxt bg) hsTU))))))
      clear hw9 q2 q5 q10 q12 hr1 hrT hrU hsTU hlT bg y0 y1 HGG HBY
      go_wp2_with fail
      obtain ⟨Wa, hWa⟩ : ∃ q, (wg.alloc (.cells #[.int .i64 numT, .slice AT nT cT] 24)).alloc (.cells #[.int .i64 numT, .slice AU nU cU] 24) = q := ⟨_, rfl⟩
      have ba : Below wg.heap.size wg Wa := by rw [← hWa]; exact ((Below.refl _ _).alloc (Nat.le_refl _) _).alloc (by simp) _
      have ra : Wa.heap[wg.heap.size]? = some (.cells #[.int .i64 numT, .slice AT nT cT] 24) := by
        rw [← hWa]; exact (Below.heap_alloc _ _ _ (by simp)).trans (heap_alloc_new _ _)
      have rb : Wa.heap[wg.heap.size + 1]? = some (.cells #[.int .i64 numT, .slice AU nU cU] 24) := by rw [← hWa]; exact heap_alloc_new2 _ _ _
      rw [hWa]
      clear hWa
      obtain ⟨hwg, p2, p5, hr1, hrT, hrU, hsTU⟩ := HKg.out
      have hsh := sheets_same (o1 := 0) (o2 := 0) (c := 1) (c' := 1) Wa (Nat.le_refl _) (Nat.le_refl _) (blk_cell ra rfl) (blk_cell ra rfl) (blk_cell rb rfl) (blk_cell rb rfl) (Array.getElem?_eq_some_iff.1 ra).1 (Array.getElem?_eq_some_iff.1 rb).1 (hrT.nxt ba) (hrU.nxt ba) hsTU hnT
      have HSH := Lib.hid hsh
      have HKa := Lib.hid (And.intro (bNext hwg ba) (And.intro (bBlk ba hz2g p2) (And.intro (bBlk ba hz5g p5) (hr1.nxt ba))))
      have hz5a : g5 < Wa.heap.size := by have := ba.size; omega
      have hz2a : W.heap.size < Wa.heap.size := by have := ba.size; omega
      clear hwg p2 p5 hr1 hrT hrU hsTU hsh ra rb ba x0 x1 x2 x3 hz10g hz12g hz5g hz2g hnT
      refine Calls.mono HSH.out ?_
      rintro e wc ⟨rfl, bc⟩
      obtain ⟨hwa, p2, p5, hr1⟩ := HKa.out
      have x0 : wc.cell? ⟨g5, 0, none⟩ = some (.int .i64 num) := blk_cell (bBlk bc hz5a p5) rfl
      have x1 : wc.cell? ⟨g5, 1, none⟩ = some (.slice A1 n c1) := blk_cell (bBlk bc hz5a p5) rfl
      have x2 : wc.cell? ⟨W.heap.size, 0, none⟩ = some (.int .i64 num) := blk_cell (bBlk bc hz2a p2) rfl
      have x3 : wc.cell? ⟨W.heap.size, 1, none⟩ = some (.slice A n c) := blk_cell (bBlk bc hz2a p2) rfl
      have hz5c : g5 < wc.heap.size := by have := bc.size; omega
      have hz2c : W.heap.size < wc.heap.size := by have := bc.size; omega
      have HKc := Lib.hid (And.intro (bNext hwa bc) (hr1.nxt bc))
      clear hwa p2 p5 hr1 bc HSH
      go_wp2_with fail
      obtain ⟨Wd, hWd⟩ : ∃ q, (wc.alloc (.cells #[.int .i64 num, .slice A1 n c1] 24)).alloc (.cells #[.int .i64 num, .slice A n c] 24) = q := ⟨_, rfl⟩
      have bd : Below wc.heap.size wc Wd := by rw [← hWd]; exact ((Below.refl _ _).alloc (Nat.le_refl _) _).alloc (by simp) _
      have ra : Wd.heap[wc.heap.size]? = some (.cells #[.int .i64 num, .slice A1 n c1] 24) := by
        rw [← hWd]; exact (Below.heap_alloc _ _ _ (by simp)).trans (heap_alloc_new _ _)
      have rb : Wd.heap[wc.heap.size + 1]? = some (.cells #[.int .i64 num, .slice A n c] 24) := by rw [← hWd]; exact heap_alloc_new2 _ _ _
      rw [hWd]
      clear hWd
      have hwd := bNext HKc.out.1 bd
      have hsh := sheets_same (o1 := 0) (o2 := 0) (c := 1) (c' := 1) Wd (Nat.le_refl _) (Nat.le_refl _) (blk_cell ra rfl) (blk_cell ra rfl) (blk_cell rb rfl) (blk_cell rb rfl) (Array.getElem?_eq_some_iff.1 ra).1 (Array.getElem?_eq_some_iff.1 rb).1 (HKc.out.2.nxt bd) (HL.out.1.nxt hwd) HK.out.2.2.2.2.1 (by omega)
      have HSH := Lib.hid hsh
      have HKd := Lib.hid hwd
      clear hwd hsh ra rb bd x0 x1 x2 x3 hz5c hz2c
      refine Calls.mono HSH.out ?_
      rintro e we ⟨rfl, be⟩
      have HKe := Lib.hid (bNext HKd.out be)
      clear be HSH
      go_wp2_with fail
      refine Calls.mono (wakes_any _ (HT.out.below HKe.out)) ?_
      rintro e wz ⟨rfl, bz⟩
      have HKz := Lib.hid (bNext HKe.out bz)
      clear bz
      go_wp2_with fail
      go_ret
      exact ⟨by simp, HKz.out⟩
end Go.Proofs.YtiffcdeagckgmaaDoor
