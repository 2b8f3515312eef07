/- tree.nodes. -/
import Derived.Test.YtcnbonmpocddmaaTrNds
namespace Go.Proofs.Ytcnbonmpocddmaa
set_option linter.unusedSimpArgs false
set_option linter.unusedVariables false
open Go.RowKit Go.Shelf Go.Sort
attribute [local go_sem] Oper.semAt_some
attribute [-go_sem] Builtin.append_

theorem keepsFrom_below {w w' : World} (h : Below w.heap.size w w') (B : Nat) : KeepsFrom B w w' := ⟨h.size, fun k o _ ho _ => bBlk h (Array.getElem?_eq_some_iff.1 ho).1 ho⟩
set_option maxRecDepth 100000 in
set_option maxHeartbeats 8000000 in
theorem nodes_some {b o n c m lv : Nat} {l : List (List UInt8)} (w : World) (hl : DgAt w w.heap.size (some ⟨b, o, none⟩) n c l) (h0 : 0 < n) (hn : n ≤ 1000000) (hlv : lv ≤ 9) (hm : m = (n + 2) / 3) :
    Calls Try.prog 28 #[.int .i64 lv, .slice (some ⟨b, o, none⟩) n c] w (NdsP w (nodesT lv l)) := by
  obtain ⟨b', o', e, hb, hr⟩ := hl.sl.at_ h0
  simp only [Option.some.injEq, Addr.mk.injEq, and_true] at e
  obtain ⟨rfl, rfl⟩ := e
  have hcap := hl.cap
  have hln := hl.len
  have HL := Lib.hid (And.intro hl hm)
  have i1 : (n : Int) ≠ 0 := by omega
  have hm3 : ∀ k, k < m ↔ k * 3 < n := fun k => by omega
  have hml : m ≤ n := by omega
  clear hl hm hr
  refine (callsIn_wide (n := 11)).1 ?_
  refine callsIn_of_wp_marks Try.func28 rfl trivial ?_ rfl
  simp only [Try.ntmps28, List.size_toArray, List.length_cons, List.length_nil, Nat.reduceAdd, Nat.reduceSub, Array.replicate_succ, Array.replicate_zero, List.push_toArray, List.append_toArray, List.nil_append, List.cons_append]
  gi_wp2_with fail
  refine ⟨trivial, ?_⟩
  refine ((callsIn_wide (n := 10)).2 (chunkD_any _ _ _ _ (by omega) _)).mono ?_
  rintro e w' ⟨rfl, rfl⟩
  gi_wp2
  generalize hW : World.alloc (World.alloc (World.alloc (World.alloc w _) _) _) _ = W1
  have hz : W1.heap.size = w.heap.size + 4 := by rw [← hW]; simp
  have bL : Boxed W1 w.heap.size 3 (.int .i64 lv) := by
    rw [← hW]; have := (((Boxed.new w 3 (.int .i64 lv)).alloc (.cells #[.slice none 0 0] 35)).alloc (.cells #[.slice (some ⟨b, o, none⟩) n c] 22)).alloc (.cells #[.int .i64 3] 3); simpa using this
  have bO : Boxed W1 (w.heap.size + 1) 35 (.slice none 0 0) := by
    rw [← hW]; have := ((Boxed.new (w.alloc (.cells #[.int .i64 lv] 3)) 35 (.slice none 0 0)).alloc (.cells #[.slice (some ⟨b, o, none⟩) n c] 22)).alloc (.cells #[.int .i64 3] 3); simpa using this
  have b1 : Boxed W1 (w.heap.size + 1 + 1) 22 (.slice (some ⟨b, o, none⟩) n c) := by
    rw [← hW]; have := (Boxed.new ((w.alloc (.cells #[.int .i64 lv] 3)).alloc (.cells #[.slice none 0 0] 35)) 22 (.slice (some ⟨b, o, none⟩) n c)).alloc (.cells #[.int .i64 3] 3); simpa using this
  have b2 : Boxed W1 (w.heap.size + 1 + 1 + 1) 3 (.int .i64 3) := by
    rw [← hW]; have := (Boxed.new (((w.alloc (.cells #[.int .i64 lv] 3)).alloc (.cells #[.slice none 0 0] 35)).alloc (.cells #[.slice (some ⟨b, o, none⟩) n c] 22)) 3 (.int .i64 3)); simpa using this
  have hB0 : Below w.heap.size w W1 := by rw [← hW]; exact ((((Below.refl _ w).alloc (Nat.le_refl _) _).alloc (by simp) _).alloc (by simp; omega) _).alloc (by simp; omega) _
  clear hW
  gi_wp2
  refine wpIn_rangeFunc_ownG rfl (by omega) (gf := 38) (lb := #[.pointer (some ⟨w.heap.size + 1 + 1, 0, none⟩), .pointer (some ⟨w.heap.size + 1 + 1 + 1, 0, none⟩)]) rfl trivial (enters_of Try.func38 (by kernel_rfl) rfl)
    (chunkD_stops (w.heap.size + 1 + 1) (w.heap.size + 1 + 1 + 1) b o n c 3 m (by omega) (by omega) hm3 (by omega) (by omega) W1 (by omega) (by omega) b1.cell b2.cell) (fun h k => h.trans k) (fun W l o o' hl h a c => Two.obj (w := W1) (by omega) (by omega) W l o o' hl h a c) (Below.refl _ _) (fun _ => rfl)
    (fun (pre : List (Fin m)) W => (∃ v L, Boxed W (w.heap.size + 1) 35 v ∧ NdS W W1.heap.size v (ndP lv l pre) L) ∧ But W1.heap.size (· = w.heap.size + 1) W1 W)
    (fun _ _ _ => False)
    (((nds_own W1.heap.size (w.heap.size + 1) (fun (pre : List (Fin m)) => ndP lv l pre)).from _).and (But.own (a := W1) (n := W1.heap.size) (X := (· = w.heap.size + 1)) (Nat.le_refl _) (Nat.le_refl _)))
    (fun _ _ _ _ _ hs _ _ => hs)
    ⟨⟨_, [], bO, nds_nil _ _⟩, But.refl _ _ _⟩
    ?a1 ?assign ?body ?done ?stop
  case assign =>
    intro l0 x W K hK
    gi_wp2
    exact hK
  case stop => exact fun D c pre W _ _ h _ => h.elim
  case body =>
    rintro l0 pre x W ⟨⟨v, L, hv, hnd⟩, hB⟩ hlt
    have hx := x.2
    have hsz := hB.size
    have hdW : DgAt W W.heap.size (some ⟨b, o + x.1 * 3 * 32, none⟩) (cl n 3 x.1) (cl n 3 x.1) (part3 l x.1) := by
      have h1 := (HL.out.1.below hB0).part x.1
      have hbl : Below w.heap.size W1 W := hB.below (by omega) (fun k e => by omega)
      exact ⟨h1.wide, h1.len, (h1.sl.below hbl).mono (by have := hB.size; omega), h1.cap⟩
    have hcl3 : cl n 3 x.1 ≤ 3 := by unfold cl; omega
    have henc := tenc_any (lv := (lv : Int)) W hdW (by omega)
    rw [enc_yes ⟨by omega, by omega, by rw [hdW.len]; exact hcl3⟩, Int.toNat_natCast] at henc
    have hnl : (nodeB lv (part3 l x.1)).length ≤ 98 := by rw [enc_len hdW.wide, hdW.len]; omega
    have hn0 : 0 < (nodeB lv (part3 l x.1)).length := by rw [enc_len hdW.wide]; omega
    have hsn := ndP_snoc lv l pre x
    have hpl := ndP_len lv l pre
    have hcL : W.cell? ⟨w.heap.size, 0, none⟩ = some (.int .i64 lv) := (hB.boxed (by omega) (by omega) bL).cell
    have HB := Lib.hid (And.intro b1 (And.intro b2 (And.intro hB (And.intro hv (And.intro hnd (And.intro hsn hpl))))))
    clear bL bO b1 b2 hB0 hB hv hnd hsn hpl HL hdW
    generalize nodeB lv (part3 l x.1) = nb at *
    generalize cl n 3 x.1 = q at *
    gi_wp2_with fail
    refine ⟨trivial, ?_⟩
    refine (CallsIn.inRound l0 (callsIn_wide.2 henc)).mono ?_
    rintro e w3 ⟨A8, c8, rfl, hown8, hb3⟩
    obtain ⟨b1, b2, hB, hv, hnd, hsn, hpl⟩ := HB.out
    have hbs3 := hb3.size
    have hvlt := (Array.getElem?_eq_some_iff.1 hv).1
    have hv3 : Boxed w3 (w.heap.size + 1) 35 v := bBlk hb3 hvlt hv
    have hrow3 := own_below hnd.own hb3
    obtain ⟨A', c', w1, hrun, hown', hgrow, hat⟩ := run_app (P := Try.prog) (w3.alloc (.cells #[slv (A8, c8, nb)] 23)) (ty := 35) (t := 35) Try.underlying35 elemS (hrow3.alloc _) (Sl.new (n := 1) (heap_alloc_new _ _) rfl) (c := 1) (by simp [slv, Value.oneCell']) (by simp only [maxLen]; omega) (by omega) (by simp; omega)
    have hnx : NdF w3 W.heap.size v (A8, c8, nb) := NdF.of_own hown8 hn0 (Nat.le_refl _) (fun k hk => (hnd.own.lt k hk).2)
    have hpush := hnd.push (B := w.heap.size + 1) (x := (A8, c8, nb)) hsz hb3 hnx (by omega) hown' hgrow hat
    rw [← hsn] at hpush
    obtain ⟨hv1, hv2, hr3, hk2, hb4⟩ := box_append (W := w3) hv3 (by omega) hrow3 (by omega) hown' hgrow
    have hc3 := hv3.cell
    have hc1 := hv1.cell
    have hf1 := hv1.frozen
    have hB5 : But W1.heap.size (· = w.heap.size + 1) W (w1.setCell ⟨w.heap.size + 1, 0, none⟩ (.slice A' ((ndP lv l pre).length + 1) c')) := (but_of (hb3.mono hsz)).trans hb4
    have FIN : Hid (KeepsFrom W1.heap.size W (w1.setCell ⟨w.heap.size + 1, 0, none⟩ (.slice A' ((ndP lv l pre).length + 1) c')) ∧ Two (w.heap.size + 1 + 1) (w.heap.size + 1 + 1 + 1) W (w1.setCell ⟨w.heap.size + 1, 0, none⟩ (.slice A' ((ndP lv l pre).length + 1) c')) ∧
        ((∃ v L, Boxed (w1.setCell ⟨w.heap.size + 1, 0, none⟩ (.slice A' ((ndP lv l pre).length + 1) c')) (w.heap.size + 1) 35 v ∧ NdS (w1.setCell ⟨w.heap.size + 1, 0, none⟩ (.slice A' ((ndP lv l pre).length + 1) c')) W1.heap.size v (ndP lv l (pre ++ [x])) L) ∧
          But W1.heap.size (· = w.heap.size + 1) W1 (w1.setCell ⟨w.heap.size + 1, 0, none⟩ (.slice A' ((ndP lv l pre).length + 1) c')))) := by
      refine Lib.hid ⟨?_, Two.boxed (hB.boxed (by omega) (by omega) b1) (hB.boxed (by omega) (by omega) b2) ((hB.trans hB5).boxed (by omega) (by omega) b1) ((hB.trans hB5).boxed (by omega) (by omega) b2), ⟨_, _, hv2, hpush⟩, hB.trans hB5⟩
      exact (keepsFrom_below hb3 _).trans (hk2.from _)
    clear b1 b2 hB hv hnd hsn hpl hv3 hrow3 hown' hgrow hat hnx hpush hv1 hv2 hr3 hk2 hb4 hB5 hown8 hb3 henc HB hcL
    generalize (ndP lv l pre).length = pn at *
    unfold slv at hrun
    gi_wp2_with fail
    exact FIN.out
  case done =>
    rintro D ys W hD rfl ⟨⟨v, L, hv, hnd⟩, hB⟩ hK
    rw [ndP_all lv (l := l) (by omega) (by rw [hln]; exact HL.out.2)] at hnd
    have hBW : Below w.heap.size w W := hB0.trans (hB.below (by omega) (fun k e => by omega))
    have hc := hv.cell
    have HH := Lib.hid (And.intro hnd (And.intro hBW hK))
    have hsz := hB.size
    clear hnd hBW hK hv hB bL bO b1 b2 hB0 HL
    gi_wp2_with fail
    obtain ⟨hnd, hBW, hK⟩ := HH.out
    refine ⟨by simp, .inl ⟨_, _, rfl, run_takeDeferred hK, ?_⟩⟩
    have hBp := hBW.trans (belowK_b (w := w) (Nat.le_refl _) W D _ (.deferred none) (by omega) hK rfl rfl)
    refine ⟨_, by simp [results, Try.results28, go_sem]; rfl, _, L, rfl, ?_, hBp⟩
    exact (hnd.putObj hK rfl).base (by omega)

set_option maxRecDepth 100000 in
set_option maxHeartbeats 2000000 in
theorem chunk1D_nil (l B1 B2 c sz : Nat) (A : Option Addr) (J Jx : List (Fin 0) → World → Prop)
    (W : World) (hB1 : W.cell? ⟨B1, 0, none⟩ = some (.slice A 0 c)) (hB2 : W.cell? ⟨B2, 0, none⟩ = some (.int .i64 sz)) (h0 : J [] W) :
    CallsIn Fence.wide 10 Try.prog 38 #[.func (.yield l) #[] #[], .pointer (some ⟨B1, 0, none⟩), .pointer (some ⟨B2, 0, none⟩)] W fun e W' => (∃ v, e = .returned v) ∧
      ((∃ ys, ys = List.finRange 0 ∧ J ys W') ∨ (∃ pre, (∃ k, k ≤ 0 ∧ pre = (List.finRange 0).take k) ∧ Jx pre W')) := by
  refine callsIn_of_wp Try.func38 rfl trivial ?_ rfl
  simp only [Try.ntmps38, List.size_toArray, List.length_cons, List.length_nil, Nat.reduceAdd, Nat.reduceSub, Array.replicate_succ, Array.replicate_zero, List.push_toArray, List.append_toArray, List.nil_append, List.cons_append]
  gi_wp2
  gi_loopw [4] (fun i wr => i = .int .i64 0 ∧ J [] wr ∧ Two B1 B2 W wr) (fun _ _ => 0)
  case atStart => exact ⟨rfl, h0, Two.refl _ _ _⟩
  case round =>
    obtain ⟨rfl, hJs, hnx⟩ := hrel
    have c1 : wr.cell? ⟨B1, 0, none⟩ = some (.slice A 0 c) := hnx.1.trans hB1
    have c2 : wr.cell? ⟨B2, 0, none⟩ = some (.int .i64 sz) := hnx.2.trans hB2
    gi_wp2
    go_end0
    exact ⟨⟨_, rfl⟩, .inl ⟨_, rfl, by simpa using hJs⟩⟩
theorem chunkD_nil (B1 B2 c sz : Nat) (A : Option Addr) (w : World) (h1n : B1 < w.heap.size) (h2n : B2 < w.heap.size)
    (hB1 : w.cell? ⟨B1, 0, none⟩ = some (.slice A 0 c)) (hB2 : w.cell? ⟨B2, 0, none⟩ = some (.int .i64 sz)) :
    SeqStopsK Fence.wide 10 Try.prog 38 #[.pointer (some ⟨B1, 0, none⟩), .pointer (some ⟨B2, 0, none⟩)] (fun x : Fin 0 => #[Value.slice none 0 0]) (Two B1 B2) (fun ys => ys = List.finRange 0)
      (fun pre => ∃ k, k ≤ 0 ∧ pre = (List.finRange 0).take k) 0 w := fun l J Jx W hW hJ _ hY h0 =>
  chunk1D_nil l B1 B2 c sz A J Jx W ((hW.cell (p := ⟨B1, 0, none⟩) h1n).trans hB1) ((hW.cell (p := ⟨B2, 0, none⟩) h2n).trans hB2) h0
set_option maxRecDepth 100000 in
set_option maxHeartbeats 8000000 in
theorem nodes_none {A : Option Addr} {c lv : Nat} (w : World) (hlv : lv ≤ 9) :
    Calls Try.prog 28 #[.int .i64 lv, .slice A 0 c] w (NdsP w (nodesT lv [])) := by
  refine (callsIn_wide (n := 11)).1 ?_
  refine callsIn_of_wp_marks Try.func28 rfl trivial ?_ rfl
  simp only [Try.ntmps28, List.size_toArray, List.length_cons, List.length_nil, Nat.reduceAdd, Nat.reduceSub, Array.replicate_succ, Array.replicate_zero, List.push_toArray, List.append_toArray, List.nil_append, List.cons_append]
  gi_wp2_with fail
  refine ⟨trivial, ?_⟩
  refine ((callsIn_wide (n := 10)).2 (chunkD_any _ _ _ _ (by omega) _)).mono ?_
  rintro e w' ⟨rfl, rfl⟩
  gi_wp2
  generalize hW : World.alloc (World.alloc (World.alloc (World.alloc w _) _) _) _ = W1
  have hz : W1.heap.size = w.heap.size + 4 := by rw [← hW]; simp
  have bL : Boxed W1 w.heap.size 3 (.int .i64 lv) := by
    rw [← hW]; have := (((Boxed.new w 3 (.int .i64 lv)).alloc (.cells #[.slice none 0 0] 35)).alloc (.cells #[.slice A 0 c] 22)).alloc (.cells #[.int .i64 3] 3); simpa using this
  have bO : Boxed W1 (w.heap.size + 1) 35 (.slice none 0 0) := by
    rw [← hW]; have := ((Boxed.new (w.alloc (.cells #[.int .i64 lv] 3)) 35 (.slice none 0 0)).alloc (.cells #[.slice A 0 c] 22)).alloc (.cells #[.int .i64 3] 3); simpa using this
  have b1 : Boxed W1 (w.heap.size + 1 + 1) 22 (.slice A 0 c) := by
    rw [← hW]; have := (Boxed.new ((w.alloc (.cells #[.int .i64 lv] 3)).alloc (.cells #[.slice none 0 0] 35)) 22 (.slice A 0 c)).alloc (.cells #[.int .i64 3] 3); simpa using this
  have b2 : Boxed W1 (w.heap.size + 1 + 1 + 1) 3 (.int .i64 ((3 : Nat) : Int)) := by
    rw [← hW]; have := (Boxed.new (((w.alloc (.cells #[.int .i64 lv] 3)).alloc (.cells #[.slice none 0 0] 35)).alloc (.cells #[.slice A 0 c] 22)) 3 (.int .i64 3)); simpa using this
  have hB0 : Below w.heap.size w W1 := by rw [← hW]; exact ((((Below.refl _ w).alloc (Nat.le_refl _) _).alloc (by simp) _).alloc (by simp; omega) _).alloc (by simp; omega) _
  clear hW
  gi_wp2
  refine wpIn_rangeFunc_ownG rfl (by omega) (gf := 38) (lb := #[.pointer (some ⟨w.heap.size + 1 + 1, 0, none⟩), .pointer (some ⟨w.heap.size + 1 + 1 + 1, 0, none⟩)]) rfl trivial (enters_of Try.func38 (by kernel_rfl) rfl)
    (chunkD_nil (w.heap.size + 1 + 1) (w.heap.size + 1 + 1 + 1) c 3 A W1 (by omega) (by omega) b1.cell b2.cell) (fun h k => h.trans k) (fun W l o o' hl h a c => Two.obj (w := W1) (by omega) (by omega) W l o o' hl h a c) (Below.refl _ _) (fun _ => rfl)
    (fun (pre : List (Fin 0)) W => (∃ v L, Boxed W (w.heap.size + 1) 35 v ∧ NdS W W1.heap.size v [] L) ∧ But W1.heap.size (· = w.heap.size + 1) W1 W)
    (fun _ _ _ => False)
    (((nds_own W1.heap.size (w.heap.size + 1) (fun (pre : List (Fin 0)) => [])).from _).and (But.own (a := W1) (n := W1.heap.size) (X := (· = w.heap.size + 1)) (Nat.le_refl _) (Nat.le_refl _)))
    (fun _ _ _ _ _ hs _ _ => hs)
    ⟨⟨_, [], bO, nds_nil _ _⟩, But.refl _ _ _⟩
    ?a1 ?assign ?body ?done ?stop
  case assign =>
    intro l0 x W K hK
    exact x.elim0
  case stop => exact fun D c pre W _ _ h _ => h.elim
  case a1 => exact fun x => x.elim0
  case body =>
    rintro l0 pre x W _ hlt
    exact x.elim0
  case done =>
    rintro D ys W hD rfl ⟨⟨v, L, hv, hnd⟩, hB⟩ hK
    have hBW : Below w.heap.size w W := hB0.trans (hB.below (by omega) (fun k e => by omega))
    have hsz := hB.size
    have henc := tenc_any (lv := (lv : Int)) (c := 0) W (DgAt.nil W W.heap.size) (by omega)
    rw [enc_yes ⟨by omega, by omega, by simp⟩, Int.toNat_natCast] at henc
    have hnl : 0 < (nodeB lv []).length := by show 0 < 2; omega
    have hcL : W.cell? ⟨w.heap.size, 0, none⟩ = some (.int .i64 lv) := (hB.boxed (by omega) (by omega) bL).cell
    have hvlt := (Array.getElem?_eq_some_iff.1 hv).1
    have HH := Lib.hid (And.intro hnd (And.intro hBW (And.intro hK (And.intro hv (show nodesT lv [] = [nodeB lv []] from rfl)))))
    have hDl := (Array.getElem?_eq_some_iff.1 hK).1
    clear hnd hBW hK hv hB bL bO b1 b2 hB0
    generalize nodeB lv [] = nb at *
    generalize nodesT lv [] = nn at *
    gi_wp2_with fail
    refine ⟨trivial, ?_⟩
    refine (callsIn_wide.2 henc).mono ?_
    rintro e w3 ⟨A8, c8, rfl, hown8, hb3⟩
    obtain ⟨hnd, hBW, hK, hv, hnn⟩ := HH.out
    subst hnn
    have hbs3 := hb3.size
    have hv3 : Boxed w3 (w.heap.size + 1) 35 v := bBlk hb3 hvlt hv
    have hrow3 := own_below hnd.own hb3
    obtain ⟨A', c', w1, hrun, hown', hgrow, hat⟩ := run_app (P := Try.prog) (w3.alloc (.cells #[slv (A8, c8, nb)] 23)) (ty := 35) (t := 35) Try.underlying35 elemS (hrow3.alloc _) (Sl.new (n := 1) (heap_alloc_new _ _) rfl) (c := 1) (by simp [slv, Value.oneCell']) (by simp only [maxLen]; simp) (by simp) (by simp; omega)
    have hnx : NdF w3 W.heap.size v (A8, c8, nb) := NdF.of_own hown8 (by omega) (Nat.le_refl _) (fun k hk => (hnd.own.lt k hk).2)
    have hpush := hnd.push (B := w.heap.size + 1) (x := (A8, c8, nb)) hsz hb3 hnx (by omega) hown' hgrow hat
    obtain ⟨hv1, hv2, hr3, hk2, hb4⟩ := box_append (W := w3) hv3 (by omega) hrow3 (by omega) hown' hgrow
    have hc3 := hv3.cell
    have hc1 := hv1.cell
    have hf1 := hv1.frozen
    have hK3 := bBlk hb3 hDl hK
    obtain ⟨W9, hW9⟩ : ∃ W9, w1.setCell ⟨w.heap.size + 1, 0, none⟩ (.slice A' (0 + 1) c') = W9 := ⟨_, rfl⟩
    have hK9 : W9.heap[D]? = some (.deferred (some [])) := by
      rw [← hW9]
      refine (Below.heap_setCell w1 _ _ D (by show D ≠ w.heap.size + 1; omega)).trans ((hgrow.block D (by simp; omega) (fun e => ?_)).trans ((Below.heap_alloc w3 _ D (by omega)).trans hK3))
      rcases hnd.own.2 with ⟨rfl, _⟩ | ⟨g, cap, cur, rfl, _, hgb, _⟩
      · cases e
      · have : D = g := by simpa [Value.ownBlock] using e
        rw [← this, hK] at hgb; cases hgb
    have hB9 : Below w.heap.size w W9 := by
      rw [← hW9]
      exact hBW.trans ((hb3.mono hBW.size).trans (hb4.below (by omega) (fun k e => by omega)))
    have hv9 : Boxed W9 (w.heap.size + 1) 35 (.slice A' (0 + 1) c') := by rw [← hW9]; exact hv2
    have hn9 : NdS W9 W1.heap.size (.slice A' (0 + 1) c') [nb] (L ++ [(A8, c8, nb)]) := by rw [← hW9]; exact hpush
    have hc9 := hv9.cell
    have HF := Lib.hid (And.intro hK9 (And.intro hB9 (And.intro hn9 hv9)))
    clear hnd hBW hK hv hv3 hrow3 hown' hgrow hat hnx hpush hv1 hv2 hr3 hk2 hb4 hown8 hb3 henc HH hK3 hK9 hB9 hv9 hn9 hcL
    unfold slv at hrun
    gi_wp2_with (first | rw [hW9] | fail)
    obtain ⟨hK9, hB9, hn9, hv9⟩ := HF.out
    refine ⟨by simp, .inl ⟨_, _, rfl, run_takeDeferred hK9, ?_⟩⟩
    have hBp := hB9.trans (belowK_b (w := w) (Nat.le_refl _) W9 D _ (.deferred none) (by omega) hK9 rfl rfl)
    refine ⟨_, by simp [results, Try.results28, go_sem]; rfl, _, L ++ [(A8, c8, nb)], rfl, ?_, hBp⟩
    exact (hn9.putObj hK9 rfl).base (by omega)
theorem nodes_any {A : Option Addr} {n c lv : Nat} {l : List (List UInt8)} (w : World) (hl : DgAt w w.heap.size A n c l) (hn : n ≤ 1000000) (hlv : lv ≤ 9) :
    Calls Try.prog 28 #[.int .i64 lv, .slice A n c] w (NdsP w (nodesT lv l)) := by
  rcases Nat.eq_zero_or_pos n with rfl | h0
  · have : l = [] := List.eq_nil_of_length_eq_zero hl.len
    subst this
    exact nodes_none w hlv
  · obtain ⟨b, o, rfl, -⟩ := hl.sl.at_ h0
    exact nodes_some w hl h0 hn hlv rfl
end Go.Proofs.Ytcnbonmpocddmaa
