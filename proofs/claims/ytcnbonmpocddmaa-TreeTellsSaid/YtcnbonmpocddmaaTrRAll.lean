/- The reference's Nodes. -/
import Derived.Test.YtcnbonmpocddmaaTrAll
import Derived.Lib.MinMax
namespace Go.Proofs.Ytcnbonmpocddmaa
set_option linter.unusedSimpArgs false
set_option linter.unusedVariables false
open Go.RowKit Go.Shelf Go.Sort

structure RN (w W : World) (v3 : Value) (ns : List (List UInt8)) (L : List SlB) (v5 : Value) (ds : List (List UInt8)) (A : Option Addr) (n c : Nat) (lc : List (List UInt8)) : Prop where
  nds : NdS W w.heap.size v3 ns L
  dig : W.ownsRow w.heap.size 40 32 v5 ds.length (dgs ds)
  dw : ∀ x ∈ ds, x.length = 32
  cur : DgAt W W.heap.size A n c lc
  sep : ∀ g, v3.ownBlock = some g → v5.ownBlock ≠ some g
  txt : ∀ x ∈ L, ∀ g, v5.ownBlock = some g → x.1 ≠ some ⟨g, 0, none⟩
  csep : 0 < n → ∀ b o, A = some ⟨b, o, none⟩ → v3.ownBlock ≠ some b ∧ v5.ownBlock ≠ some b
  bel : Below w.heap.size w W
section
variable {w W W' W2 : World} {v3 v5 v' : Value} {ns ds : List (List UInt8)} {L : List SlB} {A : Option Addr} {n c : Nat} {lc : List (List UInt8)}
theorem RN.below (h : RN w W v3 ns L v5 ds A n c lc) (hb : Below W.heap.size W W') : RN w W' v3 ns L v5 ds A n c lc :=
  ⟨h.nds.below hb, own_below h.dig hb, h.dw, h.cur.nxt hb, h.sep, h.txt, h.csep, bNext h.bel hb⟩
theorem DgAt.grown (h : DgAt W W.heap.size A n c lc) {row : Option Nat} (hg : W.grownBy W' row) (hne : 0 < n → ∀ b o, A = some ⟨b, o, none⟩ → row ≠ some b) : DgAt W' W'.heap.size A n c lc := by
  refine ⟨h.wide, h.len, ⟨h.sl.len, fun h0 => ?_⟩, h.cap⟩
  obtain ⟨b, o, e, hb, hr⟩ := h.sl.at_ h0
  refine ⟨b, o, e, Nat.lt_of_lt_of_le hb hg.size, fun j v hj => ?_⟩
  exact (World.cell?_of_block (a := ⟨b, o + j, none⟩) (hg.block b hb (fun e2 => hne h0 b o e e2.symm))).trans (hr j v hj)
theorem own_grown {base : Nat} {e : TypeId} {sz k : Nat} {v : Value} {xs : List Value} (h : W.ownsRow base e sz v k xs) {row : Option Nat} (hg : W.grownBy W' row) (hne : ∀ g, v.ownBlock = some g → row ≠ some g) : W'.ownsRow base e sz v k xs := by
  refine ⟨h.1, ?_⟩
  rcases h.2 with h1 | ⟨g, cap, cur, e1, h2, h3, h4⟩
  · exact .inl h1
  · exact .inr ⟨g, cap, cur, e1, h2, (hg.block g (Array.getElem?_eq_some_iff.1 h3).1 (fun e2 => hne g (by rw [e1]; rfl) e2.symm)).trans h3, h4⟩
/-- one more text -/
theorem RN.pushOut (h : RN w W v3 ns L v5 ds A n c lc) {x : SlB} (hx : NdF W w.heap.size v3 x) (hx5 : ∀ g, v5.ownBlock = some g → x.1 ≠ some ⟨g, 0, none⟩) {tmp : Obj}
    (hown : W2.ownsRow w.heap.size 23 1 v' (ns.length + 1) (L.map slv ++ [slv x])) (hg : (W.alloc tmp).grownBy W2 v3.ownBlock) (hat : v'.ownBlock = v3.ownBlock ∨ v'.ownBlock = some (W.alloc tmp).heap.size) :
    RN w W2 v' (ns ++ [x.2.2]) (L ++ [x]) v5 ds A n c lc := by
  have hb : Below W.heap.size W (W.alloc tmp) := (Below.refl _ _).alloc (Nat.le_refl _) _
  have h2 := h.below hb
  have hx2 : NdF (W.alloc tmp) w.heap.size v3 x := hx.kept (fun b o _ _ ho _ => bBlk hb (Array.getElem?_eq_some_iff.1 ho).1 ho) (fun _ _ h => h)
  have hv' : ∀ b, b < (W.alloc tmp).heap.size → v3.ownBlock ≠ some b → v'.ownBlock ≠ some b := fun b h1 h2 h3 => by
    rcases hat with e | e
    · exact h2 (e ▸ h3)
    · rw [e] at h3
      have : (W.alloc tmp).heap.size = b := by simpa using h3
      omega
  have hkeep : ∀ y : SlB, NdF (W.alloc tmp) w.heap.size v3 y → NdF W2 w.heap.size v' y := fun y hy =>
    hy.kept (fun b o _ h3 ho _ => (hg.block b (Array.getElem?_eq_some_iff.1 ho).1 (fun e => h3 e.symm)).trans ho) hv'
  refine ⟨⟨by rw [List.length_append, List.map_append]; exact hown, by rw [ndT, List.map_append, ← h.nds.txt]; rfl, fun y hy => ?_⟩, own_grown h2.dig hg (fun g e e2 => h.sep g e2 e), h.dw, h2.cur.grown hg (fun h0 b o e => (h.csep h0 b o e).1), fun g e e2 => ?_, fun y hy g e => ?_, fun h0 b o e => ⟨hv' b ?_ (h.csep h0 b o e).1, (h.csep h0 b o e).2⟩, ?_⟩
  · rcases List.mem_append.1 hy with hy | hy
    · exact hkeep y (h2.nds.each y hy)
    · have : y = x := by simpa using hy
      subst this; exact hkeep y hx2
  · have hlt := (h2.dig.lt g e2).2
    rcases hat with e3 | e3
    · exact h.sep g (e3 ▸ e) e2
    · rw [e3] at e
      have : (W.alloc tmp).heap.size = g := by simpa using e
      omega
  · rcases List.mem_append.1 hy with hy | hy
    · exact h.txt y hy g e
    · have : y = x := by simpa using hy
      subst this; exact hx5 g e
  · obtain ⟨b', o', e', hb', _⟩ := h2.cur.sl.at_ h0
    rw [e] at e'; cases e'; exact hb'
  · exact h2.bel.grown hg (by have := h2.bel.size; omega) (fun k e => own_ge h.nds.own k e)
/-- one more digest -/
theorem RN.pushDig (h : RN w W v3 ns L v5 ds A n c lc) {d : List UInt8} (hd : d.length = 32) {tmp : Obj}
    (hown : W2.ownsRow w.heap.size 40 32 v' (ds.length + 1) (dgs ds ++ bvs d)) (hg : (W.alloc tmp).grownBy W2 v5.ownBlock) (hat : v'.ownBlock = v5.ownBlock ∨ v'.ownBlock = some (W.alloc tmp).heap.size) :
    RN w W2 v3 ns L v' (ds ++ [d]) A n c lc := by
  have hb : Below W.heap.size W (W.alloc tmp) := (Below.refl _ _).alloc (Nat.le_refl _) _
  have h2 := h.below hb
  have hv' : ∀ b, b < (W.alloc tmp).heap.size → v5.ownBlock ≠ some b → v'.ownBlock ≠ some b := fun b h1 h2 h3 => by
    rcases hat with e | e
    · exact h2 (e ▸ h3)
    · rw [e] at h3
      have : (W.alloc tmp).heap.size = b := by simpa using h3
      omega
  refine ⟨⟨own_grown h2.nds.own hg (fun g e => h.sep g e), h.nds.txt, fun y hy => ?_⟩, by rw [List.length_append, show dgs (ds ++ [d]) = dgs ds ++ bvs d from by simp [dgs]]; exact hown, fun y hy => ?_, h2.cur.grown hg (fun h0 b o e => (h.csep h0 b o e).2), fun g e => hv' g (h2.nds.own.lt g e).2 (h.sep g e), fun y hy g e => ?_, fun h0 b o e => ⟨(h.csep h0 b o e).1, hv' b ?_ (h.csep h0 b o e).2⟩, ?_⟩
  · have hy2 := h2.nds.each y hy
    obtain ⟨⟨b, cur, e, h3, h4, h5, h6⟩, hc, hm⟩ := hy2
    exact ⟨⟨b, cur, e, h3, h4, (hg.block b (Array.getElem?_eq_some_iff.1 h5).1 (fun e2 => h.txt y hy b e2.symm e)).trans h5, h6⟩, hc, hm⟩
  · rcases List.mem_append.1 hy with hy | hy
    · exact h.dw y hy
    · have : y = d := by simpa using hy
      rw [this]; exact hd
  · obtain ⟨⟨b, cur, e3, h3, h4, h5, h6⟩, hc, hm⟩ := h2.nds.each y hy
    intro e4
    rw [e3] at e4
    cases e4
    exact hv' g (Array.getElem?_eq_some_iff.1 h5).1 (fun e2 => h.txt y hy g e2 e3) e
  · obtain ⟨b', o', e', hb', _⟩ := h2.cur.sl.at_ h0
    rw [e] at e'; cases e'; exact hb'
  · exact h2.bel.grown hg (by have := h2.bel.size; omega) (fun k e => own_ge h.dig k e)
/-- the digests become the list -/
theorem RN.turn {A5 : Option Addr} {c5 : Nat} (h : RN w W v3 ns L (.slice A5 ds.length c5) ds A n c lc) : RN w W v3 ns L (.slice none 0 0) [] A5 ds.length c5 ds :=
  ⟨h.nds, World.ownsRow_nil _ _ _ _, (fun x hx => nomatch hx), DgAt.of_own h.dig rfl h.dw, (fun g _ e => nomatch e), (fun x _ g e => nomatch e), fun _ b o e => ⟨fun e2 => h.sep b e2 (by rw [e]; rfl), (fun e2 => nomatch e2)⟩, h.bel⟩
end
theorem RN.start {w : World} {A : Option Addr} {n c : Nat} {lc : List (List UInt8)} (h : DgAt w w.heap.size A n c lc) : RN w w (.slice none 0 0) [] [] (.slice none 0 0) [] A n c lc :=
  ⟨nds_nil _ _, World.ownsRow_nil _ _ _ _, (fun x hx => nomatch hx), h, (fun g e => nomatch e), (fun x hx => nomatch hx), fun _ b o e => ⟨(fun e2 => nomatch e2), (fun e2 => nomatch e2)⟩, Below.refl _ _⟩

theorem part_cut {W : World} {A : Option Addr} {n c k : Nat} {lc : List (List UInt8)} (h : DgAt W W.heap.size A n c lc) (hk : k * 3 ≤ n) : DgAt W W.heap.size (if c = k * 3 then A else A.map (·.add (k * 3 * 32))) (cl n 3 k) (c - k * 3) (part3 lc k) := by
  have hcap := h.cap
  refine ⟨fun x hx => h.wide x (List.mem_of_mem_drop (List.mem_of_mem_take hx)), by rw [part3_len, h.len], ?_, by unfold cl; omega⟩
  rcases Nat.eq_zero_or_pos (cl n 3 k) with h0 | h0
  · rw [h0]
    have : part3 lc k = [] := List.eq_nil_of_length_eq_zero (by rw [part3_len, h.len]; exact h0)
    rw [this]; exact Sl.nil
  · have hlt : k * 3 < n := by unfold cl at h0; omega
    obtain ⟨b, o, rfl, -⟩ := h.sl.at_ (by omega)
    have := (h.part k).sl
    rw [if_neg (by omega), Option.map_some, Addr.add_mid]
    exact this
theorem nodesT_at {j : Nat} {lc : List (List UInt8)} {k : Nat} (hk : k < (nodesT j lc).length) : (nodesT j lc)[k]? = some (nodeB j (part3 lc k)) := by
  rcases Nat.eq_zero_or_pos lc.length with h | h
  · have : lc = [] := List.eq_nil_of_length_eq_zero h
    subst this
    have hk0 : k = 0 := by rw [nodesT_nil] at hk; simpa using hk
    subst hk0
    rfl
  · rw [nodesT_map j h] at hk ⊢
    rw [List.getElem?_map, List.getElem?_eq_getElem (by simpa using hk)]
    simp
theorem levelsT_s7 {j : Nat} (hj : j ≤ 6) (lc : List (List UInt8)) : levelsT nK (7 - j) j lc = if (nodesT j lc).length = 1 then [nodesT j lc] else nodesT j lc :: levelsT nK (6 - j) (j + 1) ((nodesT j lc).map nK) := by
  rw [show 7 - j = (6 - j) + 1 from by omega, levelsT]
theorem run_sliceS (x : SlB) (w : World) : (Instr.buildSlice 35 1 #[(0, .slice x.1 x.2.2.length x.2.1)]).run Try.prog w = .ok (.slice (some ⟨w.heap.size, 0, none⟩) 1 1) (w.alloc (.cells #[slv x] 23)) := by
  unfold slv
  go_simp
theorem of_ref {l : List UInt8} {A : Option Addr} {c : Nat} (hl : l.length ≤ 1000000000) (w : World) (hs : Sl w w.heap.size 1 A l.length (bvs l)) :
    Calls Try.prog 24 #[.int .i64 4, .slice A l.length c] w (Ret w (.agg (bvs (nK l)).toArray)) := by
  have := rof_any (kind := 4) (c := c) hl w (Nat.le_refl _) hs
  rw [show u8 4 = (4 : UInt8) from by decide] at this
  exact this
attribute [-go_sem] Builtin.append_ Instr.buildSlice
set_option maxHeartbeats 16000000 in
set_option maxRecDepth 100000 in
theorem rallnodes_any {A : Option Addr} {n c : Nat} {l : List (List UInt8)} (w : World) (hl : DgAt w w.heap.size A n c l) (hn : n ≤ 1000000) :
    Calls Try.prog 13 #[.slice A n c] w (NdsP w (allN l)) := by
  have hlen := hl.len
  by_cases hk : n ≤ 1000
  · have hall : allN l = (levelsT nK 7 0 l).flatten := by unfold allN; rw [if_pos (by omega)]
    rw [hall]
    have i1 : ¬ (1000 : Int) < (n : Int) := by omega
    have hlv : lvN l.length ≤ 7 := by unfold lvN; (repeat' split) <;> omega
    have H0 := Lib.hid (And.intro (RN.start hl) (And.intro hlen (And.intro hlv hl.wide)))
    clear hl hall hlv hlen
    go_enter Try.func13, Try.ntmps13
    go_wp2_with fail
    go_loopw [0, 3, 4] (fun s0 s3 s4 wr => ∃ (j n0 c0 : Nat) (A0 : Option Addr), s0 = .slice A0 n0 c0 ∧ s4 = .int .i64 j ∧ j ≤ 6 ∧ n0 ≤ 1000 ∧ w.heap.size ≤ wr.heap.size ∧ Hid (∃ ns L lc, RN w wr s3 ns L (.slice none 0 0) [] A0 n0 c0 lc ∧ lvN lc.length + j ≤ 7 ∧ ns.length ≤ 1000 * j ∧ ns ++ (levelsT nK (7 - j) j lc).flatten = (levelsT nK 7 0 l).flatten)) (fun _ _ s4 _ => 7 - (intOf s4).toNat)
    case atStart => exact ⟨0, n, c, A, rfl, rfl, by omega, hk, Nat.le_refl _, Lib.hid ⟨[], [], l, H0.out.1, by have := H0.out.2.2.1; omega, by simp, rfl⟩⟩
    case round =>
      rename World => wo
      obtain ⟨j, n0, c0, A0, rfl, rfl, hj, hn0, hwo, HI⟩ := hrel
      obtain ⟨ns, L, lc, hrn, hlv, hnsl, hall⟩ := HI.out
      have hlc := hrn.cur.len
      have hc0 := hrn.cur.cap
      have hm0 := nodesT_len j lc
      rw [hlc] at hm0
      have hat := fun k (h : k < (nodesT j lc).length) => nodesT_at h
      have hsm := fun y (h : y ∈ nodesT j lc) => nodesT_small hrn.cur.wide y h
      rw [levelsT_s7 hj] at hall
      obtain ⟨nn, hnn⟩ : ∃ q, nodesT j lc = q := ⟨_, rfl⟩
      rw [hnn] at hm0 hall
      simp only [hnn] at hat hsm
      have hm1 : 1 ≤ nn.length := by rw [hm0]; split <;> omega
      have hm2 : nn.length ≤ 1000 := by rw [hm0]; split <;> omega
      have hm3 : ∀ k : Nat, (k * 3 < n0 ∨ k = 0) ↔ k < nn.length := fun k => by rw [hm0]; split <;> omega
      have HO := Lib.hid (And.intro hlv (And.intro hnsl (And.intro hall (And.intro hat hsm))))
      have H0 := Lib.hid hrn
      have HM := Lib.hid hm0
      clear hrn hlv hnsl hall hat hsm HI hm0 hlc
      go_wp2_with fail
      go_loopw [3, 5, 6] (fun s3 s5 s6 wr => ∃ (k c5 : Nat) (A5 : Option Addr), s6 = .int .i64 ((k * 3 : Nat) : Int) ∧ s5 = .slice A5 k c5 ∧ k ≤ nn.length ∧ w.heap.size ≤ wr.heap.size ∧ Hid (∃ L', RN w wr s3 (ns ++ nn.take k) L' (.slice A5 k c5) ((nn.take k).map nK) A0 n0 c0 lc)) (fun _ _ s6 _ => nn.length * 3 - (intOf s6).toNat)
      case atStart => exact ⟨0, 0, none, rfl, rfl, by omega, hwo, Lib.hid ⟨L, by simpa using H0.out⟩⟩
      case round =>
        obtain ⟨k, c5, A5, rfl, rfl, hk2, hwr, HI⟩ := hrel
        by_cases hlt : k < nn.length
        · have hc := (hm3 k).2 hlt
          obtain ⟨L', hrn⟩ := HI.out
          obtain ⟨A3, c3, e3, -⟩ := own_form hrn.nds.own
          subst e3
          have hnl : (ns ++ nn.take k).length = ns.length + k := by rw [List.length_append, List.length_take]; omega
          have hcp := hrn.cur.cap
          have hpart := part_cut (k := k) hrn.cur (by rcases hc with h | h <;> omega)
          have henc := rtenc_any (lv := (j : Int)) wr hpart (by unfold cl; omega)
          rw [enc_yes ⟨by omega, by omega, by rw [hpart.len]; unfold cl; omega⟩, Int.toNat_natCast] at henc
          obtain ⟨yb, hyb⟩ : ∃ q, nodeB j (part3 lc k) = q := ⟨_, rfl⟩
          have hyk := HO.out.2.2.2.1 k hlt
          rw [hyb] at henc hyk
          have hyl := HO.out.2.2.2.2 _ (List.mem_of_getElem? hyk)
          have HX := Lib.hid (And.intro hrn (And.intro hnl hyk))
          rw [hnl]
          obtain ⟨hi, hhi⟩ : ∃ hi, min (k * 3 + 3) n0 = hi := ⟨_, rfl⟩
          have hcl : cl n0 3 k = hi - k * 3 := by unfold cl; omega
          rw [hcl] at henc
          have g1 : IntKind.i64.wrap (((k * 3 : Nat) : Int) + 3) = ((k * 3 + 3 : Nat) : Int) := by rw [wrap_small _ (by omega) (by omega)]; omega
          have g2 : min ((k * 3 + 3 : Nat) : Int) (n0 : Int) = (hi : Int) := by omega
          have g3 : k * 3 ≤ hi := by omega
          have g4 : (((k * 3 : Nat) : Int)) ≤ (hi : Int) := by omega
          have g5 : (hi : Int) ≤ (c0 : Int) := by omega
          have g6 : Hid (((k * 3 + 3 : Nat) : Int) = (((k + 1) * 3 : Nat) : Int)) := Lib.hid (by omega)
          clear hrn hpart hyb hnl hcl hhi
          obtain ⟨k3, hk3⟩ : ∃ q, k * 3 = q := ⟨_, rfl⟩
          have HK := Lib.hid hk3
          have hcc : k3 < n0 ∨ k3 = 0 := by omega
          rw [hk3] at henc g1 g2 g3 g4 g6 ⊢
          clear hk3 hc
          by_cases hc9 : k3 < n0
          · have hcc' : (k3 : Int) < (n0 : Int) := by omega
            clear hcc hc9
            rw [if_neg (by omega)] at henc
            go_wp2_with fail
            rw [show min ((k3 : Int) + 3) (n0 : Int) = (hi : Int) by omega, Int.toNat_natCast]
            refine Calls.mono henc ?_
            rintro e w1 ⟨A8, c8, rfl, hown8, hb1⟩
            obtain ⟨hrn, hnl, hyk⟩ := HX.out
            have hwr1 := hb1.size
            have hr1 := hrn.below hb1
            have hx1 : NdF w1 w.heap.size (.slice A3 (ns ++ nn.take k).length c3) (A8, c8, yb) := NdF.of_own hown8 (by omega) hwr (fun g hg => (hrn.nds.own.lt g hg).2)
            have hx5 : ∀ g, (Value.slice A5 k c5).ownBlock = some g → A8 ≠ some ⟨g, 0, none⟩ := fun g hg e => by
              have h1 := (hrn.dig.lt g hg).2
              have h2 := own_ge hown8 g (by rw [e]; rfl)
              omega
            obtain ⟨A', c', w2, hrun, hown', hgrow, hat'⟩ := run_app (P := Try.prog) (w1.alloc (.cells #[slv (A8, c8, yb)] 23)) (ty := 35) (t := 35) Try.underlying35 elemS (hr1.nds.own.alloc _) (Sl.new (n := 1) (heap_alloc_new _ _) rfl) (c := 1) (by simp [slv, Value.oneCell']) (by rw [hnl]; simp only [maxLen]; have := HO.out.2.1; omega) (by rw [hnl]; have := HO.out.2.1; omega) (by simp; omega)
            have hr2 := hr1.pushOut hx1 hx5 hown' hgrow hat'
            have hs1 := run_sliceS (A8, c8, yb)
            have hxn := hr2.nds.each (A8, c8, yb) (by simp)
            have hof := of_ref (c := c8) (show yb.length ≤ 1000000000 by omega) w2 hxn.sl
            have hw2 : w.heap.size ≤ w2.heap.size := hr2.bel.size
            rw [hnl] at hrun
            have hkl := nK_len yb
            obtain ⟨cs, hcs⟩ : ∃ q, bvs (nK yb) = q := ⟨_, rfl⟩
            have hcl2 : cs.length = 32 := by rw [← hcs, bvs_len, hkl]
            have hone : ∀ u ∈ cs, u.oneCell' = true := by rw [← hcs]; exact oneCell_bvs _
            rw [hcs] at hof
            have HCS := Lib.hid hcs
            have HR2 := Lib.hid (And.intro hr2 hyk)
            unfold slv at hrun hs1
            simp only at hs1
            clear hrn hr1 hx1 hx5 hown' hgrow hat' hr2 hxn hown8 hb1 henc hnl hyk HX hcs hkl
            generalize yb.length = ny at *
            go_wp2_with fail
            refine Calls.mono hof ?_
            rintro e w3 ⟨rfl, hb3⟩
            obtain ⟨hr2, hyk⟩ := HR2.out
            have hr3 := hr2.below hb3
            have hbs := run_slice1 (P := Try.prog) (t := 22) dgZ Try.underlying22 (by rw [List.size_toArray, bvs_len]; rfl) (by omega) (by omega) cs hcl2 w3
            have hdl : ((nn.take k).map nK).length = k := by rw [List.length_map, List.length_take]; omega
            have hdg := hr3.dig
            rw [hdl] at hdg
            obtain ⟨A6, c6, w4, hrun4, hown4, hgrow4, hat4⟩ := run_app (P := Try.prog) (w3.alloc (.cells cs.toArray 40)) (ty := 22) (t := 22) Try.underlying22 elemD (hdg.alloc _) (Sl.new (n := 1) (heap_alloc_new _ _) (by simpa using hcl2)) (c := 1) (by simpa using hone) (by simp only [maxLen]; omega) (by omega) (by have := hr3.bel.size; simp; omega)
            have hr4 := hr3.pushDig (d := nK yb) (nK_len _) (by rw [hdl, HCS.out]; simpa using hown4) hgrow4 hat4
            have htk : nn.take (k + 1) = nn.take k ++ [yb] := by
              obtain ⟨h1, h2⟩ := List.getElem?_eq_some_iff.1 hyk
              rw [List.take_succ_eq_append_getElem h1, h2]
            have HE := Lib.hid (show ∃ L', RN w w4 (.slice A' (ns.length + k + 1) c') (ns ++ nn.take (k + 1)) L' (.slice A6 (k + 1) c6) ((nn.take (k + 1)).map nK) A0 n0 c0 lc from by
              refine ⟨L' ++ [(A8, c8, yb)], ?_⟩
              rw [htk, List.map_append, ← List.append_assoc]
              have e : (ns ++ nn.take k).length + 1 = ns.length + k + 1 := by rw [List.length_append, List.length_take]; omega
              rw [← e]
              exact hr4)
            have hw4 : w.heap.size ≤ w4.heap.size := hr4.bel.size
            clear hr2 hyk hr3 hdl hdg hown4 hgrow4 hat4 hr4 htk HR2 hof hb3 hrun hs1
            go_wp2_with fail
            go_roundw
            case rel => exact ⟨k + 1, c6, A6, by rw [← g6.out]; go_num, rfl, by omega, hw4, HE.out⟩
            case measure => have := HK.out; simp [intOf]; omega
          · have hn00 : n0 = 0 := by omega
            have hk0 : k = 0 := by have := HK.out; omega
            have hh0 : hi = 0 := by omega
            have hcc0 : k3 = 0 := by omega
            subst hn00 hk0 hcc0 hh0
            clear g2 g3 g4 g5 hcc hc9 g6 HK
            go_wp2_with fail
            have hA : (if c0 = 0 then A0 else Option.map (fun x => x.add (0 * 32)) A0) = A0 := by
              split
              · rfl
              · cases A0 with
                | none => rfl
                | some a => simp [Addr.add]
            rw [hA] at henc
            rw [show (min (3 : Int) 0).toNat = 0 from rfl]
            refine Calls.mono henc ?_
            rintro e w1 ⟨A8, c8, rfl, hown8, hb1⟩
            obtain ⟨hrn, hnl, hyk⟩ := HX.out
            have hwr1 := hb1.size
            have hr1 := hrn.below hb1
            have hx1 : NdF w1 w.heap.size (.slice A3 (ns ++ nn.take 0).length c3) (A8, c8, yb) := NdF.of_own hown8 (by omega) hwr (fun g hg => (hrn.nds.own.lt g hg).2)
            have hx5 : ∀ g, (Value.slice A5 0 c5).ownBlock = some g → A8 ≠ some ⟨g, 0, none⟩ := fun g hg e => by
              have h1 := (hrn.dig.lt g hg).2
              have h2 := own_ge hown8 g (by rw [e]; rfl)
              omega
            obtain ⟨A', c', w2, hrun, hown', hgrow, hat'⟩ := run_app (P := Try.prog) (w1.alloc (.cells #[slv (A8, c8, yb)] 23)) (ty := 35) (t := 35) Try.underlying35 elemS (hr1.nds.own.alloc _) (Sl.new (n := 1) (heap_alloc_new _ _) rfl) (c := 1) (by simp [slv, Value.oneCell']) (by rw [hnl]; simp only [maxLen]; have := HO.out.2.1; omega) (by rw [hnl]; have := HO.out.2.1; omega) (by simp; omega)
            have hr2 := hr1.pushOut hx1 hx5 hown' hgrow hat'
            have hs1 := run_sliceS (A8, c8, yb)
            have hxn := hr2.nds.each (A8, c8, yb) (by simp)
            have hof := of_ref (c := c8) (show yb.length ≤ 1000000000 by omega) w2 hxn.sl
            have hw2 : w.heap.size ≤ w2.heap.size := hr2.bel.size
            rw [hnl] at hrun
            simp only [Nat.add_zero] at hrun
            have hkl := nK_len yb
            obtain ⟨cs, hcs⟩ : ∃ q, bvs (nK yb) = q := ⟨_, rfl⟩
            have hcl2 : cs.length = 32 := by rw [← hcs, bvs_len, hkl]
            have hone : ∀ u ∈ cs, u.oneCell' = true := by rw [← hcs]; exact oneCell_bvs _
            rw [hcs] at hof
            have HCS := Lib.hid hcs
            have HR2 := Lib.hid (And.intro hr2 hyk)
            unfold slv at hrun hs1
            simp only at hs1
            clear hrn hr1 hx1 hx5 hown' hgrow hat' hr2 hxn hown8 hb1 henc hnl hyk HX hcs hkl
            generalize yb.length = ny at *
            go_wp2_with fail
            refine Calls.mono hof ?_
            rintro e w3 ⟨rfl, hb3⟩
            obtain ⟨hr2, hyk⟩ := HR2.out
            have hr3 := hr2.below hb3
            have hbs := run_slice1 (P := Try.prog) (t := 22) dgZ Try.underlying22 (by rw [List.size_toArray, bvs_len]; rfl) (by omega) (by omega) cs hcl2 w3
            have hdl : ((nn.take 0).map nK).length = 0 := by rw [List.length_map, List.length_take]; omega
            have hdg := hr3.dig
            rw [hdl] at hdg
            obtain ⟨A6, c6, w4, hrun4, hown4, hgrow4, hat4⟩ := run_app (P := Try.prog) (w3.alloc (.cells cs.toArray 40)) (ty := 22) (t := 22) Try.underlying22 elemD (hdg.alloc _) (Sl.new (n := 1) (heap_alloc_new _ _) (by simpa using hcl2)) (c := 1) (by simpa using hone) (by simp only [maxLen]; omega) (by omega) (by have := hr3.bel.size; simp; omega)
            have hr4 := hr3.pushDig (d := nK yb) (nK_len _) (by rw [hdl, HCS.out]; simpa using hown4) hgrow4 hat4
            have htk : nn.take (0 + 1) = nn.take 0 ++ [yb] := by
              obtain ⟨h1, h2⟩ := List.getElem?_eq_some_iff.1 hyk
              rw [List.take_succ_eq_append_getElem h1, h2]
            have HE := Lib.hid (show ∃ L', RN w w4 (.slice A' (ns.length + 1) c') (ns ++ nn.take (0 + 1)) L' (.slice A6 (0 + 1) c6) ((nn.take (0 + 1)).map nK) A0 0 c0 lc from by
              refine ⟨L' ++ [(A8, c8, yb)], ?_⟩
              rw [htk, List.map_append, ← List.append_assoc]
              have e : (ns ++ nn.take 0).length + 1 = ns.length + 1 := by rw [List.length_append, List.length_take]; omega
              rw [← e]
              exact hr4)
            have hw4 : w.heap.size ≤ w4.heap.size := hr4.bel.size
            clear hr2 hyk hr3 hdl hdg hown4 hgrow4 hat4 hr4 htk HR2 hof hb3 hrun hs1
            go_wp2_with fail
            go_roundw
            case rel => exact ⟨1, c6, A6, rfl, rfl, by omega, hw4, HE.out⟩
            case measure => simp [intOf]; omega
        · obtain rfl : k = nn.length := by omega
          obtain ⟨L', hrn⟩ := HI.out
          have hend := hm3 nn.length
          have e1 : ¬ ((nn.length * 3 : Nat) : Int) < (n0 : Int) := by omega
          have e2 : ¬ ((nn.length * 3 : Nat) : Int) = 0 := by omega
          rw [List.take_length] at hrn
          obtain ⟨hlv, hnsl, hall, -, -⟩ := HO.out
          have hnl : (ns ++ nn).length = ns.length + nn.length := by rw [List.length_append]
          by_cases h1 : nn.length = 1
          · rw [if_pos h1] at hall
            have HF := Lib.hid (And.intro hrn hall)
            have i9 : (nn.length : Int) = 1 := by omega
            obtain ⟨A3, c3, e3, -⟩ := own_form hrn.nds.own
            subst e3
            clear hrn hlv hnsl hall HO HI H0 hend HM hm3
            have HQ := Lib.hid (show (ns ++ nn).length = ns.length + 1 by omega)
            obtain ⟨q3, hq3⟩ : ∃ q, nn.length * 3 = q := ⟨_, rfl⟩
            rw [hq3] at e1 e2 ⊢
            clear hq3 hnl
            generalize nn.length = q at *
            go_wp2_with fail
            go_ret
            obtain ⟨hrn, hall⟩ := HF.out
            rw [show [nn].flatten = nn from by simp] at hall
            exact ⟨.slice A3 (ns ++ nn).length c3, L', by rw [List.length_append]; rfl, by rw [← hall]; exact hrn.nds, hrn.bel⟩
          · rw [if_neg h1] at hall
            have hnl3 := HM.out
            have hlc := hrn.cur.len
            have hlc3 : 3 < lc.length := by
              rw [hnl3] at h1
              split at h1 <;> omega
            have hnl4 : nn.length = (lc.length + 2) / 3 := by rw [hnl3, if_neg (by omega), hlc]
            have hlvs := lvN_step hlc3 (by omega)
            have h1v : 1 ≤ lvN ((lc.length + 2) / 3) := by unfold lvN; (repeat' split) <;> omega
            have i9 : ¬ (nn.length : Int) = 1 := by omega
            have hml : (nn.map nK).length = nn.length := by rw [List.length_map]
            have hj5 : j ≤ 5 := by omega
            have hrt : RN w wr u3 (ns ++ nn) L' (.slice none 0 0) [] A5 nn.length c5 (nn.map nK) := by
              have := RN.turn (A5 := A5) (c5 := c5) (ds := nn.map nK) (by rw [hml]; exact hrn)
              rwa [hml] at this
            have HF := Lib.hid (And.intro hrt (And.intro (show lvN (nn.map nK).length + (j + 1) ≤ 7 by rw [hml, hnl4]; omega) (And.intro (show (ns ++ nn).length ≤ 1000 * (j + 1) by omega) hall)))
            have g1 : IntKind.i64.wrap ((j : Int) + 1) = ((j + 1 : Nat) : Int) := by rw [wrap_small _ (by omega) (by omega)]; omega
            obtain ⟨q3, hq3⟩ : ∃ q, nn.length * 3 = q := ⟨_, rfl⟩
            rw [hq3] at e1 e2 ⊢
            have HQ := Lib.hid hq3
            clear hq3
            clear hrn hlv hnsl hall HO HI H0 hend HM hm3 hrt hml hlvs h1v hnl4 hnl3 hlc hlc3 h1
            go_wp2_with fail
            go_roundw
            case rel =>
              obtain ⟨f1, f2, f3, f4⟩ := HF.out
              refine ⟨j + 1, nn.length, c5, A5, rfl, by go_num, by omega, hm2, hwr, Lib.hid ⟨ns ++ nn, L', nn.map nK, f1, f2, f3, ?_⟩⟩
              rw [← f4, show 7 - (j + 1) = 6 - j from by omega]
              simp
            case measure => simp [intOf]; omega
  · have hall : allN l = [] := by unfold allN; rw [if_neg (by omega)]
    rw [hall]
    have i1 : (1000 : Int) < (n : Int) := by omega
    clear hl hall hk
    go_enter Try.func13, Try.ntmps13
    go_wp2_with fail
    go_ret
    exact ⟨_, [], rfl, nds_nil _ _, (by repeat (first | (with_reducible exact Below.refl _ _) | (with_reducible refine bDrewN ?_ _) | (with_reducible refine Below.drew ?_) | (with_reducible refine Below.alloc ?_ ?_ _) | (with_reducible refine Below.setCell ?_ ?_ _) | (with_reducible assumption) | go_size))⟩
end Go.Proofs.Ytcnbonmpocddmaa
