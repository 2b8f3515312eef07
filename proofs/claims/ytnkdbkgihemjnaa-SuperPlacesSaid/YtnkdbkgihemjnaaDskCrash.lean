/- The walk over disk.Crash. -/
import Derived.Test.YtnkdbkgihemjnaaDskKept
namespace Go.Proofs.Ytnkdbkgihemjnaa
set_option linter.unusedSimpArgs false
set_option linter.unusedVariables false
open Go.RowKit Go.Shelf
attribute [local go_sem] Oper.semAt_some

theorem wpList_copy_cells {P : Program} {w : World} {ops : Array Oper} {rest : List Oper} {o : Oper} {a : Act} {Q : Exit → Act → World → Prop} (hgd : o.guard = none) (d s : Operand) (dT sT : TypeId)
    (ho : o.op = .call { callee := .builtin .copy, args := #[d, s], argTypes := #[dT, sT] }) (elem : TypeId) (hu : P.underlying dT = some (.slice elem)) (hsz : (P.info? elem).map (·.size) = some 1)
    (b off dLen dCap : Nat) (ad : Addr) (sLen sCap : Nat) (hd : a.eval d = .slice (some ⟨b, off, none⟩) dLen dCap) (hs : a.eval s = .slice (some ad) sLen sCap) (cs : List Value) (hn : cs.length = Nat.min sLen dLen)
    (hsrc : ∀ j v, cs[j]? = some v → w.cell? (ad.add j) = some v) (ht : w.there b off cs.length) (h1 : ∀ v ∈ cs, v.oneCell' = true)
    (h : wpList P ops Q rest (a.put o.dst (goInt cs.length)) (w.setCells b off cs)) : wpList P ops Q (o :: rest) a w := by
  refine wpList_plain hgd fun K hK => ?_
  have hrun := run_copy_cells (P := P) w dT sT o.type elem b off dLen dCap ad sLen sCap cs hu hsz hn hsrc (fun j hj => (ht j hj).1) (fun j hj => (ht j hj).2) h1
  unfold Oper.wp
  simp [execOp, ho, resolve, invoke, builtin, hd, hs, hrun, Result.andThen]
  exact hK _ _ h

/-! ### plain -/
def crashF (s : DS) (torn : Int) (ks : List Nat) : List Blk :=
  ks.foldl (fun bl k => bl.set (s.lo[k]?.getD (0, [])).1 (halfOf (sizeOf' torn k) (s.lo[k]?.getD (0, [])).2 (bl[(s.lo[k]?.getD (0, [])).1]?.getD zblk))) s.bl
theorem crashF_snoc (s : DS) (torn : Int) (ks : List Nat) (k : Nat) : crashF s torn (ks ++ [k]) = (crashF s torn ks).set (s.lo[k]?.getD (0, [])).1 (halfOf (sizeOf' torn k) (s.lo[k]?.getD (0, [])).2 ((crashF s torn ks)[(s.lo[k]?.getD (0, [])).1]?.getD zblk)) := by
  simp [crashF]
theorem crashF_len (s : DS) (torn : Int) (ks : List Nat) : (crashF s torn ks).length = s.bl.length := by
  unfold crashF
  generalize s.bl = bl
  induction ks generalizing bl with
  | nil => rfl
  | cons k l ih => rw [List.foldl_cons, ih, List.length_set]
theorem crashF_all (s : DS) (torn : Int) (keep : List UInt8) : ∀ n, n ≤ s.lo.length → crashF s torn (keptK keep n) = crashTo keep torn s.lo s.bl n
  | 0, _ => rfl
  | n + 1, h => by
    have ih := crashF_all s torn keep n (by omega)
    have hx : s.lo[n]? = some s.lo[n] := List.getElem?_eq_getElem (by omega)
    have e : crashTo keep torn s.lo s.bl (n + 1) = crash1 keep torn n (crashTo keep torn s.lo s.bl n) s.lo[n] := by
      show (match s.lo[n]? with | some x => crash1 keep torn n (crashTo keep torn s.lo s.bl n) x | none => crashTo keep torn s.lo s.bl n) = _
      rw [hx]
    rw [keptK_succ, e]
    unfold crash1
    by_cases hk : keeps keep n = true
    · rw [if_pos hk, if_pos hk, crashF_snoc, ih, hx]; rfl
    · rw [if_neg hk, if_neg hk, List.append_nil, ih]
/-- a part of a block is written -/
theorem Dk.putHalf {w : World} {base p B : Nat} {v : Value} {s : DS} (h : Dk w base p B v s) {i n : Nat} (hi : i < s.bl.length) {b : Blk} (hb : b.length = 128) (hn : n ≤ 128) :
    Dk (w.setCells B (i * 128) (bvs (b.take n))) base p B v { s with bl := s.bl.set i (halfOf n b (s.bl[i]?.getD zblk)) } ∧ But w.heap.size (· = B) w (w.setCells B (i * 128) (bvs (b.take n))) ∧ w.there B (i * 128) n := by
  have hl := bcs_len h.ok
  have hlen : i * 128 + 128 ≤ (bcs s.bl).length := by rw [hl]; omega
  have ho : (s.bl[i]?.getD zblk).length = 128 := h.ok.blk i
  have hg : s.bl[i]? = some (s.bl[i]?.getD zblk) := by rw [List.getElem?_eq_getElem hi]; rfl
  have hhl : (halfOf n b (s.bl[i]?.getD zblk)).length = 128 := halfOf_len hn hb ho
  generalize s.bl[i]?.getD zblk = old at *
  refine ⟨⟨?_, ?_, ?_, h.pB, h.bp, h.bB, h.vp, h.vB, ?_⟩, but_sets _ B _ (But.refl _ _ _) rfl, there_blk h.bl (by simp; omega)⟩
  · show _ = some (Obj.cells (dkHead B (s.bl.set i (halfOf n b old)).length v s.fuse s.done s.down) _)
    rw [List.length_set, sets_far _ _ _ _ _ h.pB]; exact h.hd
  · have htl : (bvs (b.take n)).length = n := by rw [bvs_len, List.length_take, hb]; omega
    rw [blk_sets _ _ h.bl, setMany_list _ _ _ (by rw [htl]; omega), htl]
    have e := flat_set (f := bvs) (x := halfOf n b old) h.ok.bvs hi (by rw [bvs_len]; exact hhl)
    show _ = some (Obj.cells ((s.bl.set i (halfOf n b old)).flatMap bvs).toArray _)
    rw [e]
    have hp := flat_part (f := bvs) h.ok.bvs hg
    have hdrop : (s.bl.flatMap bvs).drop (i * 128 + n) = bvs (old.drop n) ++ (s.bl.flatMap bvs).drop (i * 128 + 128) := by
      have e2 : (s.bl.flatMap bvs).drop (i * 128) = bvs old ++ (s.bl.flatMap bvs).drop (i * 128 + 128) := by
        rw [← hp, ← List.drop_drop, List.take_append_drop]
      rw [← List.drop_drop, e2, List.drop_append, bvs_len, ho, Nat.sub_eq_zero_of_le hn, List.drop_zero]
      congr 1
      unfold bvs; rw [List.map_drop]
    unfold bcs
    rw [hdrop]
    unfold halfOf
    rw [bvs_append]
    simp only [List.append_assoc]
  · refine ⟨h.lo.1, ?_⟩
    rcases h.lo.2 with e | ⟨g, cap, cur, e, h1, h2, h3⟩
    · exact .inl e
    · exact .inr ⟨g, cap, cur, e, h1, (sets_far _ _ _ _ _ (fun ee => h.vB (by rw [e, ← ee]; rfl))).trans h2, h3⟩
  · exact ⟨fun c hc => by
      rcases List.mem_or_eq_of_mem_set hc with h1 | rfl
      · exact h.ok.bl c h1
      · exact hhl, fun x hx => by show x.1 < (s.bl.set i _).length ∧ _; rw [List.length_set]; exact h.ok.lo x hx, by show 16 ≤ (s.bl.set i _).length; rw [List.length_set]; exact h.ok.n16, by show (s.bl.set i _).length ≤ 128; rw [List.length_set]; exact h.ok.n128, h.ok.f63⟩
theorem keeps_sets : ∀ (vs : List Value) (W : World) (b o : Nat), KeepsOthers W (W.setCells b o vs)
  | [], W, b, o => KeepsOthers.refl W
  | v :: vs, W, b, o => (KeepsOthers.setCell W ⟨b, o, none⟩ v).trans (keeps_sets vs _ b (o + 1))
/-- what Crash does at its end -/
theorem Dk.ended {w : World} {base p B : Nat} {v : Value} {s : DS} (h : Dk w base p B v s) :
    Dk (((w.setCell ⟨p, 1, none⟩ (.slice none 0 0)).setCell ⟨p, 2, none⟩ (.int .i64 (-1))).setCell ⟨p, 4, none⟩ (.bool false)) base p B (.slice none 0 0) ⟨s.bl, [], -1, s.done, false⟩ ∧
      But w.heap.size (· = p) w (((w.setCell ⟨p, 1, none⟩ (.slice none 0 0)).setCell ⟨p, 2, none⟩ (.int .i64 (-1))).setCell ⟨p, 4, none⟩ (.bool false)) := by
  refine ⟨⟨blk_set (blk_set (blk_set h.hd 1 _) 2 _) 4 _, blk_far (blk_far (blk_far h.bl _ (fun e => h.pB e.symm)) _ (fun e => h.pB e.symm)) _ (fun e => h.pB e.symm), World.ownsRow_nil _ _ _ _, h.pB, h.bp, h.bB, by simp [Value.ownBlock], by simp [Value.ownBlock], ⟨h.ok.bl, fun x hx => (by cases hx), h.ok.n16, h.ok.n128, by simp⟩⟩, ?_⟩
  exact (((But.refl _ _ _).setp 1 _).setp 2 _).setp 4 _

set_option maxHeartbeats 4000000 in
set_option maxRecDepth 100000 in
theorem crash_any {w : World} {base p B : Nat} {v : Value} {s : DS} (h : Dk w base p B v s) (hlo : s.lo.length < 1000000) (keep : List UInt8) (KA : Option Addr) (kc : Nat) (hkl : keep.length ≤ 1000000) (hK : Sl w w.heap.size 1 KA keep.length (bvs keep))
    (hKO : ∀ b o, 0 < keep.length → KA = some ⟨b, o, none⟩ → ¬ Own p B v b) (torn : Int) :
    Calls Try.prog 23 #[dp p, .slice KA keep.length kc, .int .i64 torn] w fun e w' => e = .returned (.tuple #[]) ∧ ∃ v', Dk w' base p B v' (s.crash keep torn) ∧ DStep p B v v' w w' := by
  have hown := h.own_ge
  have HOWN := Lib.hid (fun k hk => (h.own_ge k hk).2)
  obtain ⟨W1, hW1⟩ : ∃ W1, (((w.alloc (.cells #[dp p] 25)).alloc (.cells #[.int .i64 torn] 3)).alloc (.cells #[dp p] 25)).alloc (.cells #[.slice KA keep.length kc] 41) = W1 := ⟨_, rfl⟩
  have hkp := fun W => kept_any p KA keep.length kc W
  have hB1 : Below w.heap.size w W1 := by rw [← hW1]; exact ((((Below.refl _ _).alloc (Nat.le_refl _) _).alloc (by simp) _).alloc (by simp <;> omega) _).alloc (by simp <;> omega) _
  have hz1 : W1.heap.size = w.heap.size + 4 := by rw [← hW1]; simp
  have b0 : W1.heap[w.heap.size]? = some (.cells #[dp p] 25) := by rw [← hW1]; exact (Below.heap_alloc _ _ _ (by simp <;> omega)).trans ((Below.heap_alloc _ _ _ (by simp <;> omega)).trans ((Below.heap_alloc _ _ _ (by simp)).trans (heap_alloc_new _ _)))
  have b1 : W1.heap[w.heap.size + 1]? = some (.cells #[.int .i64 torn] 3) := by rw [← hW1]; exact (Below.heap_alloc _ _ _ (by simp <;> omega)).trans ((Below.heap_alloc _ _ _ (by simp <;> omega)).trans (heap_alloc_two _ _ _))
  have b2 : W1.heap[w.heap.size + 1 + 1]? = some (.cells #[dp p] 25) := by
    have e := heap_alloc_two (w.alloc (.cells #[dp p] 25)) (.cells #[.int .i64 torn] 3) (.cells #[dp p] 25)
    rw [World.size_alloc] at e
    rw [← hW1]; exact (Below.heap_alloc _ _ _ (by simp <;> omega)).trans e
  have b3 : W1.heap[w.heap.size + 1 + 1 + 1]? = some (.cells #[.slice KA keep.length kc] 41) := by
    have e := heap_alloc_two ((w.alloc (.cells #[dp p] 25)).alloc (.cells #[.int .i64 torn] 3)) (.cells #[dp p] 25) (.cells #[.slice KA keep.length kc] 41)
    rw [World.size_alloc, World.size_alloc] at e
    rw [← hW1]; exact e
  have hk1 := h.below hB1
  have hK1 := (hK.below hB1).mono hB1.size
  have HK := Lib.hid (And.intro hk1 (And.intro b2 (And.intro b3 hK1)))
  have HS0 : Hid (DStep p B v v w W1) := Lib.hid ⟨but_of hB1, fun k e => .inl e⟩
  have HKB : Hid (∀ b o, 0 < keep.length → KA = some ⟨b, o, none⟩ → b < w.heap.size ∧ b ≠ B) := Lib.hid fun b o h0 e => by
    obtain ⟨b', o', e', hb', _⟩ := hK.at_ h0
    rw [e] at e'; cases e'
    exact ⟨hb', fun ee => hKO b o h0 e (ee ▸ .inr (.inl rfl))⟩
  have HOK := Lib.hid h.ok.lo
  unfold dp at *
  clear h hk1 hK1 hown hK b2 b3 hB1 hKO
  refine (callsIn_wide (n := 11)).1 ?_
  refine callsIn_of_wp_marks Try.func23 rfl trivial ?_ rfl
  simp only [Try.ntmps23, List.size_toArray, List.length_cons, List.length_nil, Nat.reduceAdd, Nat.reduceSub, Array.replicate_succ, Array.replicate_zero, List.push_toArray, List.append_toArray, List.nil_append, List.cons_append]
  gi_wp2_with fail
  refine ⟨trivial, ?_⟩
  refine (callsIn_wide.2 (hkp _)).mono ?_
  rintro e w' ⟨rfl, rfl⟩
  gi_wp2
  let X : Nat → Prop := fun k => k = w.heap.size + 1 + 1 ∨ k = w.heap.size + 1 + 1 + 1 ∨ OwnL p v k ∨ (0 < keep.length ∧ ∃ o, KA = some ⟨k, o, none⟩)
  have hXW : ∀ k, X k → k < W1.heap.size := fun k hk => by
    rcases hk with e | e | e | ⟨e, o, e2⟩
    · omega
    · omega
    · have := HOWN.out k (by rcases e with e | e; exact .inl e; exact .inr (.inr e)); omega
    · have := (HKB.out k o e e2).1; omega
  have hBw : B < w.heap.size := HOWN.out B (.inr (.inl rfl))
  have hXs : ∀ k, X k → k ≠ B := fun k hk => by
    rcases hk with e | e | (e | e) | ⟨e, o, e2⟩
    · omega
    · omega
    · intro ee; exact HK.out.1.pB (e.symm.trans ee)
    · intro ee; exact HK.out.1.vB (by rw [e, ee])
    · exact (HKB.out k o e e2).2
  let act : {k : Nat // k < s.lo.length} → Nat → Act := fun x g => ⟨#[.pointer (some ⟨p, 0, none⟩), .slice KA keep.length kc, .int .i64 torn, .pointer (some ⟨w.heap.size, 0, none⟩), undef, .pointer (some ⟨w.heap.size + 1, 0, none⟩), .int .i64 x.1, .pointer (some ⟨g, 0, none⟩), undef, .pointer (some ⟨p, 0, none⟩), .bool false, .pointer (some ⟨p, 0, none⟩), .slice KA keep.length kc, .func (.func 77) #[] #[.pointer (some ⟨w.heap.size + 1 + 1, 0, none⟩), .pointer (some ⟨w.heap.size + 1 + 1 + 1, 0, none⟩)], .int .i64 x.1, .agg (wcs (s.lo[x.1]?.getD (0, []))).toArray, undef, undef, undef, undef, undef, undef, undef, undef, undef, undef, undef, undef, undef, undef, undef, undef, undef, undef, undef, undef, undef, undef, undef, undef, undef], []⟩
  refine wpIn_rangeFunc_ownH rfl (by omega) (gf := 77) (lb := #[.pointer (some ⟨w.heap.size + 1 + 1, 0, none⟩), .pointer (some ⟨w.heap.size + 1 + 1 + 1, 0, none⟩)]) rfl trivial (enters_of Try.func77 (by kernel_rfl) rfl)
    (kept_stops (w.heap.size + 1 + 1) (w.heap.size + 1 + 1 + 1) keep KA kc hkl X (.inl rfl) (.inr (.inl rfl)) (fun k hk => .inr (.inr (.inl hk))) (fun b o h0 e => .inr (.inr (.inr ⟨h0, o, e⟩))) hlo W1 hXW HK.out.2.1 HK.out.2.2.1 HK.out.2.2.2 HK.out.1.dl)
    (fun h k => h.trans k) (fun W l o o' hl h a c => Hold.obj (w := W1) hXW W l o o' hl h a c) (Below.refl _ _) (fun _ => rfl)
    (fun (pre : List {k : Nat // k < s.lo.length}) W => Dk W base p B v { s with bl := crashF s torn (pre.map Subtype.val) } ∧ But W1.heap.size (· = B) W1 W)
    (fun _ _ _ => False)
    (OwnFrom.and (fun pre W W' row hd hg hr => hd.hold (fun k hk => hg.block k (hd.own_ge k hk).2 (fun e => by have := (hr k e.symm).1; have := HOWN.out k hk; omega))) (But.own (a := W1) (n := W1.heap.size) (X := (· = B)) (Nat.le_refl _) (Nat.le_refl _)))
    (fun _ _ _ _ _ hs _ _ => hs)
    ⟨HK.out.1, But.refl _ _ _⟩
    (fun (x : {k : Nat // k < s.lo.length}) a' W => ∃ g, a' = act x g ∧ W1.heap.size ≤ g ∧ W.heap[g]? = some (.cells (wcs (s.lo[x.1]?.getD (0, []))).toArray 112))
    (fun x a' => blk_own1 act (fun x => (wcs (s.lo[x.1]?.getD (0, []))).toArray) 112 x a')
    ?assign ?body ?done ?stop
  case assign =>
    rintro l0 pre x W K ⟨hs, hB⟩ hK
    have hsz := hB.size
    obtain ⟨y, hy⟩ : ∃ y, s.lo[x.1]? = some y := ⟨_, List.getElem?_eq_getElem x.2⟩
    have hyg : s.lo[x.1]?.getD (0, []) = y := by rw [hy]; rfl
    have hy2 := (HOK.out y (List.mem_of_getElem? hy)).2
    have hwl : (wcs y).length = 129 := by unfold wcs; rw [List.length_cons, bvs_len, hy2]
    have hwi : (Try.prog.info? 112).map (·.size) = some (wcs y).toArray.size := by rw [List.size_toArray, hwl]; kernel_rfl
    have hone : (wcs y).toArray.all (·.oneCell') = true := all_oneCell_toArray (fun u hu => one_lcs [y] u (by unfold lcs; rw [List.flatMap_cons, List.flatMap_nil, List.append_nil]; exact hu))
    have hzs : (Value.int .i64 0 :: bvs zblk).toArray.size = (wcs y).toArray.size := by rw [wrZ_size, List.size_toArray, hwl]
    obtain ⟨V, hV⟩ : ∃ V, World.setRow (W.alloc (.cells (Value.int .i64 0 :: bvs zblk).toArray 112)) W.heap.size (wcs y).toArray = V := ⟨_, rfl⟩
    have hbV : But W1.heap.size (fun _ => False) W V := by rw [← hV]; exact ⟨rfl, rfl, rfl, by simp, fun k hk _ => (setRow_other _ _ _ _ (by omega)).trans (Below.heap_alloc _ _ _ (by omega))⟩
    have hbW : Below W.heap.size W V := by rw [← hV]; exact bSetRow ((Below.refl _ _).alloc (Nat.le_refl _) _) (Nat.le_refl _) _
    have hkV : KeepsOthers W V := by rw [← hV]; exact (KeepsOthers.alloc W _).trans (keeps_setRow (heap_alloc_new _ _) _)
    have hgV : V.heap[W.heap.size]? = some (.cells (wcs y).toArray 112) := by rw [← hV]; exact setRow_heap _ _ _ _ _ _ (heap_alloc_new _ _)
    have HFIN := Lib.hid (hK (act x W.heap.size) V (hkV.from _) (Hold.of_but hbV (fun k hk => ⟨hXW k hk, id⟩)) ⟨hs.below hbW, hB.trans (hbV.widen (fun k e => e.elim))⟩ ⟨W.heap.size, rfl, by omega, by rw [hyg]; exact hgV⟩)
    simp only [act, hyg] at HFIN
    simp only [kcs, hyg, fold_two, List.setIfInBounds_toArray, List.set_cons_succ, List.set_cons_zero]
    clear hK hs hgV hbV hbW hkV
    gi_wp2_with (first
      | (refine wpListIn_val rfl (fun c e => by cases e) rfl (exec_new wrZ rfl _) ?_)
      | (refine wpListIn_skip rfl (fun c e => by cases e) rfl (exec_store_row (x := .tmp 7) (y := .tmp 15) rfl rfl rfl (heap_alloc_new _ _) hwi hzs hone) ?_)
      | fail)
    rw [hV]
    exact HFIN.out
  case stop => exact fun D c pre W _ _ h _ => h.elim
  case body =>
    rintro l0 pre x a' W hl0 - ⟨hs, hB⟩ ⟨g, rfl, hg, bx⟩ hlt
    obtain ⟨y, hy⟩ : ∃ y, s.lo[x.1]? = some y := ⟨_, List.getElem?_eq_getElem x.2⟩
    have hyg : s.lo[x.1]?.getD (0, []) = y := by rw [hy]; rfl
    have hyo := HOK.out y (List.mem_of_getElem? hy)
    have hsz := hB.size
    have hsn := crashF_snoc s torn (pre.map Subtype.val) x.1
    rw [show pre.map Subtype.val ++ [x.1] = (pre ++ [x]).map Subtype.val by simp] at hsn
    have HSN := Lib.hid hsn
    clear hsn
    have hfl := crashF_len s torn (pre.map Subtype.val)
    rw [hyg] at bx
    have hyg' := Lib.hid hyg
    generalize crashF s torn (pre.map Subtype.val) = bl at *
    obtain ⟨hb0, c0, -, -, -, -, fr⟩ := hs.hds
    simp only at c0
    have d0 := blk_cell (hB.blk (by omega) (by omega) b0) (k := 0) rfl
    have d1 := blk_cell (hB.blk (by omega) (by omega) b1) (k := 0) rfl
    have e0 : W.cell? ⟨g, 0, none⟩ = some (.int .i64 (y.1 : Int)) := blk_cell bx (by unfold wcs; rfl)
    have hy2 := hyo.2
    have e1 : W.rangeAt g 1 (bvs y.2) := fun j u hj => by rw [Nat.add_comm]; exact blk_cell bx (by unfold wcs; simpa using hj)
    have g1 : (y.1 : Int) < bl.length := by rw [hfl]; omega
    have HS := Lib.hid hs
    clear hb0 hy bx
    have hst : ∃ n : Nat, sizeOf' torn x.1 = n ∧ n ≤ 128 := ⟨_, rfl, sizeOf_le _ _⟩
    obtain ⟨n, hn, hn8⟩ := hst
    have hnn := Lib.hid hn
    have hi : y.1 < ({ s with bl := bl } : DS).bl.length := by show y.1 < bl.length; rw [hfl]; exact hyo.1
    obtain ⟨q1, q2, q3⟩ := (HS.out.below (w' := W.drew) ((Below.refl _ _).drew)).putHalf hi hy2 hn8
    have q4 : KeepsOthers W.drew (W.drew.setCells B (y.1 * 128) (bvs (y.2.take n))) := keeps_sets _ _ _ _
    have e2 : ∀ j u, (bvs (y.2.take n))[j]? = some u → W.drew.cell? ((⟨g, 1, none⟩ : Addr).add j) = some u := fun j u hj => by
      rw [Addr.add_mid]
      refine e1 j u ?_
      unfold bvs at hj ⊢
      rw [List.getElem?_map, List.getElem?_take] at hj
      rw [List.getElem?_map]
      split at hj
      · exact hj
      · simp at hj
    have e3 : (bvs (y.2.take n)).length = n := by rw [bvs_len, List.length_take, hy2]; omega
    have HFIN : Hid (KeepsFrom W1.heap.size W (W.drew.setCells B (y.1 * 128) (bvs (y.2.take n))) ∧ Hold X W (W.drew.setCells B (y.1 * 128) (bvs (y.2.take n))) ∧ Dk (W.drew.setCells B (y.1 * 128) (bvs (y.2.take n))) base p B v { s with bl := crashF s torn ((pre ++ [x]).map Subtype.val) } ∧ But W1.heap.size (· = B) W1 (W.drew.setCells B (y.1 * 128) (bvs (y.2.take n)))) := Lib.hid (by
      have hbt : But W1.heap.size (· = B) W (W.drew.setCells B (y.1 * 128) (bvs (y.2.take n))) := but_sets _ B _ ((But.refl _ _ W).drew) rfl
      refine ⟨((KeepsOthers.drew W).trans q4).from _, Hold.of_but hbt (fun k hk => ⟨hXW k hk, hXs k hk⟩), ?_, hB.trans hbt⟩
      rw [HSN.out, hyg'.out, hn]
      exact q1)
    clear q1 q2 q4 hs HSN hn
    by_cases ht : (x.1 : Int) = torn
    · have hn2 : n = 64 := by have := hnn.out; rw [sizeOf', if_pos ht] at this; omega
      subst hn2
      simp only [act]
      gi_wp2
      refine round_still_tail 12 (by kernel_rfl) (by kernel_rfl) (by first | exact ownG_noOut | exact inBlock_noOut ownG_noOut | exact then_noOut (inBlock_noOut ownG_noOut)) (by kernel_rfl) ?_
      simp only [List.take_succ_cons, List.take_zero, List.drop_succ_cons, List.drop_zero]
      repeat still_step
      refine wpStill_nil ?_
      change wpList _ _ _ _ _ (World.drew _)
      refine wpList_copy_cells rfl (.tmp 27) (.tmp 30) 41 41 rfl 5 Try.underlying41 (by kernel_rfl) B (y.1 * 128) 64 128 ⟨g, 1, none⟩ 64 128 rfl rfl (bvs (y.2.take 64)) (by rw [e3]; rfl) e2 (by rw [e3]; exact q3) (fun u hu => oneCell_bvs _ u hu) ?_
      go_wp2
      exact HFIN.out
    · have hn2 : n = 128 := by have := hnn.out; rw [sizeOf', if_neg ht] at this; omega
      subst hn2
      simp only [act]
      gi_wp2
      refine round_still_tail 12 (by kernel_rfl) (by kernel_rfl) (by first | exact ownG_noOut | exact inBlock_noOut ownG_noOut | exact then_noOut (inBlock_noOut ownG_noOut)) (by kernel_rfl) ?_
      simp only [List.take_succ_cons, List.take_zero, List.drop_succ_cons, List.drop_zero]
      repeat still_step
      refine wpStill_nil ?_
      change wpList _ _ _ _ _ (World.drew _)
      refine wpList_copy_cells rfl (.tmp 27) (.tmp 30) 41 41 rfl 5 Try.underlying41 (by kernel_rfl) B (y.1 * 128) 128 128 ⟨g, 1, none⟩ 128 128 rfl rfl (bvs (y.2.take 128)) (by rw [e3]; rfl) e2 (by rw [e3]; exact q3) (fun u hu => oneCell_bvs _ u hu) ?_
      go_wp2
      exact HFIN.out
  case done =>
    rintro D ys W hD hys ⟨hd, hB⟩ hK
    have hbl := crashF_all s torn keep s.lo.length (Nat.le_refl _)
    rw [hys, hbl] at hd
    have hlt := hd.lt
    obtain ⟨q1, q2⟩ := hd.ended
    obtain ⟨hb0, c0, c1, c2, c3, c4, fr⟩ := hd.hds
    have d0 := blk_cell (hB.blk (by omega) (by omega) b0) (k := 0) rfl
    have hsz := hB.size
    have hDp : D ≠ p := by have := HOWN.out p (.inl rfl); omega
    have HST : Hid (DStep p B v v w W) := Lib.hid (HS0.out.trans ⟨(hB.widen (fun k e => .inr (.inl e))), fun k e => .inl e⟩)
    have HQ := Lib.hid (And.intro q1 q2)
    clear q1 q2 hd hb0 c3 hbl
    gi_wp2
    gi_region
    generalize hV : World.drew (World.setCell (World.setCell (World.setCell _ _ _) _ _) _ _) = V
    have hKV : V.heap[D]? = some (.deferred (some [])) := by rw [← hV]; exact blk_far (blk_far (blk_far hK _ hDp) _ hDp) _ hDp
    have hBp := belowK_b (w := w) (Nat.le_refl _) V D _ (.deferred none) (by omega) hKV rfl rfl
    have hVs : W.heap.size ≤ V.heap.size := by rw [← hV]; simp
    have hDV : Dk (V.putObj D (.deferred none)) base p B (.slice none 0 0) (s.crash keep torn) := by
      refine Dk.hold (w := V) ?_ (fun k hk => hBp.block k (HOWN.out k (by rcases hk with e | e | e; exact .inl e; exact .inr (.inl e); simp [Value.ownBlock] at e)))
      rw [← hV]
      exact HQ.out.1.below (w' := World.drew _) ((Below.refl _ _).drew)
    have hb1 : But w.heap.size (Own p B v) w V := HST.out.but.trans (by rw [← hV]; exact ((HQ.out.2.drew).widen (fun k e => .inl e)).less (by omega))
    have hSV : DStep p B v (.slice none 0 0) w (V.putObj D (.deferred none)) := ⟨hb1.trans (but_of hBp), fun k e => by simp [Value.ownBlock] at e⟩
    clear hV
    refine ⟨by simp, .inl ⟨_, _, rfl, run_takeDeferred hKV, ?_⟩⟩
    exact ⟨_, results_none rfl _ _ _, rfl, _, hDV, hSV⟩
theorem crash_nil (w : World) (K : Value) (torn : Int) : Calls Try.prog 23 #[.pointer none, K, .int .i64 torn] w fun e w' => e = .returned (.tuple #[]) ∧ Below w.heap.size w w' := by
  go_enter Try.func23, Try.ntmps23
  go_wp2_with fail
  refine bodyPost_ret (results_none rfl _ _ _) rfl ?_
  exact ⟨rfl, (by repeat (first | (with_reducible exact Below.refl _ _) | (with_reducible refine bDrewN ?_ _) | (with_reducible refine Below.drew ?_) | (with_reducible refine Below.alloc ?_ ?_ _) | (with_reducible refine Below.setCell ?_ ?_ _) | (with_reducible assumption) | go_size))⟩
end Go.Proofs.Ytnkdbkgihemjnaa
