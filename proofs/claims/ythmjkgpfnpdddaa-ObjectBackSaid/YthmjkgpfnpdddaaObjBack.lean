/- The walk over ObjectBack. -/
import Derived.Test.YthmjkgpfnpdddaaObjWakes
namespace Go.Proofs.Ythmjkgpfnpdddaa
set_option linter.unusedSimpArgs false
set_option linter.unusedVariables false
open Go.RowKit Go.ChangeShapes Go.WideShapes Go.Sort

theorem big_back {a : Int} {A : Option Addr} {n c : Nat} (w : World) (h : 2000 < n) : Calls Try.prog 4 #[.int .i64 a, .slice A n c] w (Ret w (.bool true)) := by
  go_enter Try.func4, Try.ntmps4
  go_wp2_with (first
    | (go_at_call 13; refine Calls.mono (wakes03_any _) ?_; rintro e W3 ⟨rfl, hb3⟩)
    | fail)
  go_ret
  exact Ret.mk rfl hb3
set_option maxHeartbeats 16000000 in
set_option maxRecDepth 100000 in
theorem no_back {a : Int} {A : Option Addr} {n c : Nat} {body : List UInt8} (w : World) (hs : Sl w w.heap.size 1 A n (bvs body)) (hl : body.length = n) (hn : n ≤ 2000) (h : a < 1 ∨ (1 ≤ a ∧ 6 < a) ∨ (1 ≤ a ∧ a ≤ 6 ∧ 1000 < n)) :
    Calls Try.prog 4 #[.int .i64 a, .slice A n c] w (Ret w (.bool true)) := by
  have hfa := frame_any (kind := a) (c := c) hl w hs (Nat.le_refl _)
  have ho : obOk a n = false := by unfold obOk; exact decide_eq_false (by omega)
  rw [show frameB a body = [] from by unfold frameB; rw [hl, ho]; rfl, show frameE a n = 1 from by unfold frameE; rw [ho]; rfl] at hfa
  clear ho hs hl
  go_enter Try.func4, Try.ntmps4
  go_wp2_with fail
  refine Calls.mono hfa ?_
  rintro e W1 ⟨A7, n7, c7, rfl, hn7, -, -, -, hb1⟩
  replace hn7 : n7 = 0 := hn7
  subst hn7
  clear hfa
  rcases h with h | ⟨h, h2⟩ | ⟨h, h2, h3⟩
  all_goals
    go_wp2_with (first
      | (go_at_call 13; refine Calls.mono (wakes03_any _) ?_; rintro e W4 ⟨rfl, hb4⟩)
      | fail)
    go_ret
    first
      | exact Ret.mk rfl (bNext hb1 hb4)
      | exact Ret.mk (vbool (by simp; omega)) (bNext hb1 hb4)
theorem wpList_slice {P : Program} {ops : Array Oper} {rest : List Oper} {o : Oper} {a : Act} {w w' : World} {Q : Exit → Act → World → Prop} (hgd : o.guard = none) (t : TypeId) (k : Nat) (parts : Array (Nat × Operand)) (ho : o.op = .buildSlice t k parts) {v : Value}
    (hrun : (Instr.buildSlice t k (parts.map fun (i, x) => (i, a.eval x))).run P w = .ok v w') (h : wpList P ops Q rest (a.put o.dst v) w') : wpList P ops Q (o :: rest) a w :=
  wpList_plain hgd fun _ hK => by
    unfold Oper.wp execOp
    simp only [ho, Sem.run_bind, hrun, Result.andThen_ok, Sem.run_pure]
    exact hK _ _ h
theorem bytes_eqT {A B : Option Addr} {n m c c' BA BB : Nat} {xs : List UInt8} (w : World) (h1 : Sl w BA 1 A n (bvs xs)) (h2 : Sl w BB 1 B m (bvs xs)) :
    Calls Try.prog 19 #[.slice A n c, .slice B m c'] w fun e w' => e = .returned (.bool true) ∧ w = w' :=
  (bytes_any A B n m c c' BA BB xs xs w h1 h2).mono fun e w' ⟨h, k⟩ => ⟨by rw [h, decide_eq_true rfl], k⟩
attribute [-go_sem] Builtin.append_
set_option maxHeartbeats 16000000 in
set_option maxRecDepth 100000 in
theorem yes_back {a : Int} {A : Option Addr} {n c : Nat} {body : List UInt8} (w : World) (hs : Sl w w.heap.size 1 A n (bvs body)) (hl : body.length = n) (h1 : 1 ≤ a) (h2 : a ≤ 6) (h3 : n ≤ 1000) :
    Calls Try.prog 4 #[.int .i64 a, .slice A n c] w (Ret w (.bool true)) := by
  have hfa := frame_any (kind := a) (c := c) hl w hs (Nat.le_refl _)
  have ho : obOk a n = true := obOk_iff.2 ⟨h1, h2, h3⟩
  have ho' : obOk a body.length = true := by rw [hl]; exact ho
  rw [show frameE a n = 0 from by unfold frameE; rw [ho]; rfl] at hfa
  have hlen := frame_len ho'
  rw [hl] at hlen
  have hl8 := frame_len8 a body
  have hroom : 1 ≤ (frameB a body).length ∧ n + 7 ≤ (frameB a body).length * 128 := by
    have := hlen
    unfold blocksN at this
    rw [if_neg (by omega)] at this
    omega
  have hall := frame_all a body
  obtain ⟨i1, i2, i3, i4⟩ := frame_back ho'
  have hff := frame_flat ho'
  have hfew := isO_fewer hall i1
  have hmore := isO_more hall i1 zblk
  have hk : kindOf (frameB a body) = a := by unfold kindOf; rw [i1, if_pos rfl]; exact i2
  have hb : bodyOf (frameB a body) = body := by unfold bodyOf; rw [i1, if_pos rfl]; exact i4
  have he : bodyE (frameB a body) = 0 := by unfold bodyE; rw [i1, if_pos rfl]
  have ht1 : ((frameB a body).flatten).take (3 + n) = obText a body := by
    rw [hff]
    unfold obAll
    rw [List.append_assoc, show 3 + n = (obText a body).length by rw [obText_len, hl], List.take_left]
  have ht2 : ((frameB a body).flatten.drop (3 + n)).take 4 = chk (obText a body) := by
    rw [hff]
    unfold obAll
    rw [List.append_assoc, show 3 + n = (obText a body).length by rw [obText_len, hl], List.drop_left, show 4 = (chk (obText a body)).length by rw [chk_len], List.take_left]
  have htl := obText_len a body
  rw [hl] at htl
  obtain ⟨F, hF⟩ : ∃ q, frameB a body = q := ⟨_, rfl⟩
  rw [hF] at hlen hl8 hroom hall hfew hmore hk hb he ht1 ht2 hfa
  obtain ⟨T, hT⟩ : ∃ q, obText a body = q := ⟨_, rfl⟩
  rw [hT] at ht1 ht2 htl
  have HP := Lib.hid (And.intro hlen (And.intro hl8 (And.intro hroom (And.intro hall (And.intro hfew (And.intro hmore (And.intro hk (And.intro hb (And.intro he (And.intro ht1 (And.intro ht2 htl)))))))))))
  have HL := Lib.hid hl
  clear ho ho' hlen hl8 hroom hall i1 i2 i3 i4 hff hfew hmore hk hb he ht1 ht2 hF hT htl
  go_enter Try.func4, Try.ntmps4
  go_wp2_with fail
  refine Calls.mono hfa ?_
  rintro e W1 ⟨A5, m, c5, rfl, hm, hmc, hcm5, hs5, hb1⟩
  clear hfa
  obtain ⟨hlen, hl8, hroom, hall, hfew, hmore, hk, hbo, he, ht1, ht2, htl⟩ := HP.out
  rw [← hm] at hlen hl8 hroom hfew
  have hbat : BAt W1 W1.heap.size A5 m c5 F := ⟨hall, hm.symm, hs5, hmc⟩
  have hsb := hs.next hb1
  have hbd := body_any W1 hbat (by omega)
  unfold BodP at hbd
  rw [hk, hbo, he] at hbd
  have H1 := Lib.hid (And.intro hbat (And.intro hsb (And.intro hb1 hlen)))
  have hm0 : ¬ (m : Int) = 0 := by omega
  have hm0' : ((m : Int) == 0) = false := by simpa using hm0
  have hm1 : 1 ≤ m := hroom.1
  have hm7 : n + 7 ≤ m * 128 := hroom.2
  clear hm hlen hroom hall hfew hmore hk hbo he ht1 ht2 htl hbat hsb hb1 hs5 hs hl
  go_wp2_with fail
  refine Calls.mono hbd ?_
  rintro e W2 ⟨A8, n8, c8, rfl, hn8, hnc8, hcm8, hs8, hb2⟩
  replace hn8 := hn8.trans HL.out
  subst hn8
  clear hbd
  have hbat := H1.out.1.nxt hb2
  have hsb := H1.out.2.1.next hb2
  have hB2 := bNext H1.out.2.2.1 hb2
  have hby := fun c c' => bytes_any A8 A n8 n8 c c' _ _ body body W2 hs8 hsb
  rw [decide_eq_true rfl] at hby
  have hbk := blocks_any (n8 : Int) W2 (by omega) (by omega)
  rw [← H1.out.2.2.2] at hbk
  have H2 := Lib.hid (And.intro hbat (And.intro hsb hB2))
  clear hbat hsb hB2 hb2 hs8 H1
  go_upto_region 9 with (first
    | (go_at_call 19; go_loud (with_reducible refine Calls.mono (hby _ _) ?_); clear hby; rintro e w' ⟨rfl, rfl⟩)
    | (go_at_call 20; go_loud (with_reducible refine Calls.mono hbk ?_); clear hbk; rintro e w' ⟨rfl, rfl⟩)
    | fail)
  obtain ⟨M, hM⟩ : ∃ M, m - 1 = M := ⟨_, rfl⟩
  have hmM : m = M + 1 := by omega
  have w91 : IntKind.i64.wrap ((m : Int) - 1) = (M : Int) := by rw [wrap_small _ (by omega) (by omega)]; omega
  have hMc : (M : Int) ≤ (c5 : Int) := by omega
  have hMc' : M ≤ c5 := by omega
  have hfb : BAt W2 W2.heap.size A5 M c5 (F.take (F.length - 1)) := by
    have hb := H2.out.1
    refine ⟨fun x hx => hb.all x (List.mem_of_mem_take hx), by rw [List.length_take, hb.len]; omega, ?_, hMc'⟩
    refine ⟨?_, fun h0 => ?_⟩
    · rw [bsv_flat, bvs_len, flat_len (fun x hx => hb.all x (List.mem_of_mem_take hx)), List.length_take, hb.len]; omega
    · obtain ⟨b', o', e, hbb, hr⟩ := hb.sl.at_ (by omega)
      refine ⟨b', o', e, hbb, fun j v hj => hr j v ?_⟩
      have e2 : bsv F = bsv (F.take (F.length - 1)) ++ bsv (F.drop (F.length - 1)) := by
        unfold bsv
        rw [← List.flatMap_append, List.take_append_drop]
      rw [e2, List.getElem?_append_left (List.getElem?_eq_some_iff.1 hj).1]
      exact hj
  have hbd := body_any W2 hfb (by omega)
  unfold BodP at hbd
  have hno := HP.out.2.2.2.2.1
  rw [show kindOf (F.take (F.length - 1)) = 0 from by unfold kindOf; rw [hno]; rfl, show bodyOf (F.take (F.length - 1)) = [] from by unfold bodyOf; rw [hno]; rfl, show bodyE (F.take (F.length - 1)) = 11 from by unfold bodyE; rw [hno]; rfl] at hbd
  have HM := Lib.hid (And.intro hmM hM)
  clear hno hfb hmM hM
  go_wp2_with fail
  refine Calls.mono hbd ?_
  rintro e W3 ⟨A11, n11, c11, rfl, -, -, -, -, hb3⟩
  clear hbd
  have hbat := H2.out.1.nxt hb3
  have hsb := H2.out.2.1.next hb3
  have hB3 := bNext H2.out.2.2 hb3
  have hbA : Below W3.heap.size W3 (W3.alloc (.cells #[] 40)) := (Below.refl _ _).alloc (Nat.le_refl _) _
  have hs2 := hbat.sl.below hbA
  have H3 := Lib.hid (And.intro hbat (And.intro hsb hB3))
  have hoc := oneCell_bvs F.flatten
  rw [← bsv_flat] at hoc
  have hbs := fun W => run_slice1 (P := Try.prog) (t := 23) blkZ Try.underlying23 (by rw [List.size_toArray, bvs_len, zblk_len]) (by omega) (by omega) (bvs zblk) (by rw [bvs_len, zblk_len]) W
  have hb0 := built_blk0
  obtain ⟨Z, hZ⟩ : ∃ Z, bvs zblk = Z := ⟨_, rfl⟩
  rw [hZ] at hbs hb0
  have HZ := Lib.hid hZ
  clear hZ
  clear hbat hsb hB3 hb3 H2 w91 hMc hMc'
  go_upto_region 10 with (fail)
  refine wp_region_lit ?_
  iterate 6 (first | go_guarded | go_step)
  refine wpList_app _ rfl (.tmp 98) (.tmp 99) 23 rfl (base := W3.heap.size) Try.underlying23 elemB rfl (own_none' W3 W3.heap.size 40 128 (Nat.le_refl _)) rfl hs2 hoc (by simp only [maxLen]; omega) (by omega) (by simp) ?_
  intro A100 c100 w100 hown hg hb hat
  simp only [Nat.zero_add, List.nil_append] at hown ⊢
  (try simp only [Act.put, List.setIfInBounds_toArray, List.set_cons_zero, List.set_cons_succ])
  refine wpList_built rfl 40 #[] rfl (cs := Z.toArray) (by simp only [List.map_toArray, List.map_nil]; exact hb0) ?_
  (try simp only [Act.put, List.setIfInBounds_toArray, List.set_cons_zero, List.set_cons_succ])
  refine wpList_slice (v := .slice (some ⟨w100.heap.size, 0, none⟩) 1 1) (w' := w100.alloc (.cells Z.toArray 40)) rfl 23 1 #[(0, .tmp 101)] rfl (by simp only [List.map_toArray, List.map_cons, List.map_nil]; exact hbs w100) ?_
  (try simp only [Act.put, List.setIfInBounds_toArray, List.set_cons_zero, List.set_cons_succ])
  have hZl : Z.length = 128 := by rw [← HZ.out, bvs_len, zblk_len]
  have hZo : ∀ u ∈ Z, u.oneCell' = true := by rw [← HZ.out]; exact oneCell_bvs _
  refine wpList_app _ rfl (.tmp 100) (.tmp 102) 23 rfl (base := W3.heap.size) Try.underlying23 elemB rfl (hown.alloc _) rfl (Sl.new (sz := 128) (n := 1) (heap_alloc_new w100 (.cells Z.toArray 40)) (by simpa using hZl)) (by simpa using hZo) (by simp only [maxLen]; omega) (by omega) (by have := hb.size; simp at this; simp; omega) ?_
  intro A103 c103 w103 hown4 hg4 hb4 hat4
  (try simp only [Act.put, List.setIfInBounds_toArray, List.set_cons_zero, List.set_cons_succ])
  have e10 : bsv F ++ Z.toArray.toList = bsv (F ++ [zblk]) := by rw [← HZ.out]; simp [bsv]
  rw [e10] at hown4
  obtain ⟨A', c', e, hmc3, hcm3⟩ := own_form hown4
  simp only [Value.slice.injEq] at e
  obtain ⟨rfl, -, rfl⟩ := e
  have hba3 : BAt w103 w103.heap.size A103 (m + 1) c103 (F ++ [zblk]) := ⟨fun x hx => by
    rcases List.mem_append.1 hx with h | h
    · exact H3.out.1.all x h
    · simp at h; subst h; exact zblk_len, by rw [List.length_append, H3.out.1.len]; rfl, Sl.of_own hown4, hmc3⟩
  have hbd := body_any w103 hba3 (by omega)
  unfold BodP at hbd
  have hno := HP.out.2.2.2.2.2.1
  rw [show kindOf (F ++ [zblk]) = 0 from by unfold kindOf; rw [hno]; rfl, show bodyOf (F ++ [zblk]) = [] from by unfold bodyOf; rw [hno]; rfl, show bodyE (F ++ [zblk]) = 11 from by unfold bodyE; rw [hno]; rfl] at hbd
  have hb13 : Below W3.heap.size W3 w103 := (hbA.trans hb).trans (((Below.refl _ w100).alloc (by have := hb.size; simp at this; omega) _).trans hb4)
  have H10 := Lib.hid hb13
  clear hno e10 hown hg hb hat hown4 hg4 hb4 hat4 hba3 hbA hs2 hoc hbs hb0 hZl hZo HZ hmc3 hcm3 hb13 HM
  go_wp2_with fail
  refine Calls.mono hbd ?_
  rintro e W4 ⟨A14, n14, c14, rfl, -, -, -, -, hb4⟩
  clear hbd
  have hb34 := H10.out.trans (hb4.mono H10.out.size)
  have hbat := H3.out.1.nxt hb34
  have hB4 := bNext H3.out.2.2 hb34
  have H4 := Lib.hid (And.intro hbat hB4)
  have w116 : IntKind.i64.wrap (3 + (n8 : Int)) = 3 + (n8 : Int) := wrap_small _ (by omega) (by omega)
  clear hbat hB4 hb34 H10 H3 hb4
  go_upto_region 14 with (fail)
  obtain ⟨t, ht⟩ : ∃ t : Nat, 3 + n8 = t := ⟨_, rfl⟩
  have htc : 3 + (n8 : Int) = (t : Int) := by omega
  rw [htc]
  have HT := Lib.hid ht
  clear w116 ht htc
  go_wp2_with fail
  go_loopw [17, 18] (fun sb si wr => ∃ j : Nat, j ≤ m ∧ si = .int .i64 j ∧ wr.ownsRow W4.heap.size 5 1 sb (j * 128) (bvs (flatTo F j)) ∧ Below W4.heap.size W4 wr) (fun _ i _ => m - (intOf i).toNat)
  case atStart => exact ⟨0, by omega, rfl, by rw [flatTo_zero]; exact World.ownsRow_nil _ _ _ _, Below.refl _ _⟩
  case round =>
    obtain ⟨j, hj, rfl, hown, hbr⟩ := hrel
    obtain ⟨A17, c17, rfl, hc17⟩ := own_form hown
    by_cases hlt : j < m
    · obtain ⟨x, hx⟩ : ∃ x, F[j]? = some x := ⟨_, List.getElem?_eq_getElem (by rw [H4.out.1.len]; exact hlt)⟩
      have hxo := H4.out.1.all x (List.mem_of_getElem? hx)
      obtain ⟨b', o', rfl, hbB, hxr⟩ := H4.out.1.entry hx
      replace hxr := bRange hbr (by omega) hxr
      have hfs := flatTo_succ hx
      have hi1 : (j : Int) < (m : Int) := by omega
      have hzr := hbr.size
      have hxs2 : Sl wr wr.heap.size 1 (some ⟨b', o' + j * 128, none⟩) 128 (bvs x) := ⟨by rw [bvs_len, hxo], fun _ => ⟨b', o' + j * 128, rfl, by omega, hxr⟩⟩
      have HR := Lib.hid (And.intro hbr hfs)
      clear hbr hfs hxr hx
      go_wp2_with (first
        | (at_builtin; go_loud (refine wpList_app _ rfl (.tmp 123) (.tmp 127) 22 rfl (base := W4.heap.size) Try.underlying22 elemC rfl hown rfl hxs2 (oneCell_bvs _) (by simp only [maxLen]; omega) (by omega) hzr ?_; intro A41 c41 w41 hown4 hg4 hb4 hat4))
        | fail)
      refine ⟨⟨j + 1, by omega, by go_num, ?_, HR.out.1.trans hb4⟩, by simp [intOf]; omega⟩
      rw [HR.out.2, bvs_append, show (j + 1) * 128 = j * 128 + 128 by omega]
      exact hown4
    · obtain rfl : j = m := by omega
      have hi1 : ¬ (j : Int) < (j : Int) := by omega
      rw [show flatTo F j = F.flatten by rw [← flatTo_all, H4.out.1.len]] at hown
      have hs17 := Sl.of_own hown
      obtain ⟨p, q, rfl, hp, -⟩ := hs17.at_ (by omega)
      obtain ⟨-, -, -, -, -, -, -, -, -, ht1, ht2, htl⟩ := HP.out
      rw [HT.out] at ht1 ht2 htl
      have htm := HT.out
      have hsT : Sl wr wr.heap.size 1 (some ⟨p, q, none⟩) t (bvs T) := by
        have := sl_cut hs17 0 (q := t) (m := T) (by rw [List.drop_zero]; exact ht1) htl (by omega)
        exact this
      have hsC := sl_cut hs17 t (q := 4) (m := chk T) ht2 (chk_len T) (by omega)
      obtain ⟨L, hL⟩ : ∃ L, j * 128 = L := ⟨_, rfl⟩
      rw [hL] at hc17 hm7 ⊢
      have f1 : IntKind.i64.wrap ((t : Int) + 4) = (t : Int) + 4 := wrap_small _ (by omega) (by omega)
      have f2 : ¬ (L : Int) < (t : Int) + 4 := by omega
      have f3 : (t : Int) ≤ (c17 : Int) := by omega
      have f4 : t ≤ c17 := by omega
      have f5 : (t : Int) + 4 ≤ (c17 : Int) := by omega
      have f6 : t + 4 ≤ c17 := by omega
      have f7 : ((t : Int) + 4).toNat = t + 4 := by omega
      have f8 : t + 4 - t = 4 := by omega
      have f9 : ¬ c17 = t := by omega
      have f10 : (0 : Int) ≤ (t : Int) + 4 := by omega
      have hck := check_any (l := T) (A := some ⟨p, q, none⟩) (c := c17) (B := wr.heap.size) (by omega) wr (Nat.le_refl _) (by rw [htl]; exact hsT)
      rw [htl, chk_first] at hck
      have hBr := bNext H4.out.2 hbr
      have hF4 := chk_len T
      obtain ⟨C, hC⟩ : ∃ q, chk T = q := ⟨_, rfl⟩
      rw [hC] at hck hF4 hsC
      have HR := Lib.hid (And.intro hsC hBr)
      clear hsT hsC hs17 hown hbr hBr ht1 ht2 htl htm hC hL
      obtain ⟨y4, hy⟩ : ∃ z, zs 4 = z := ⟨_, rfl⟩
      have hyl : y4.length = 4 := by rw [← hy]; rfl
      have hyZ := d4Z
      rw [hy] at hyZ
      clear hy
      go_upto_region 21 with (fail)
      go_wp2_with (first
        | (go_at_call 22; go_loud (with_reducible refine Calls.mono hck ?_); clear hck; rintro e W5 ⟨rfl, hb5⟩)
        | (refine wpList_new rfl hyZ rfl ?_)
        | (refine wpList_store_row rfl 41 (.tmp 19) (.tmp 137) rfl _ (bvs C).toArray rfl rfl _ (bvs y4).toArray (heap_alloc_new _ _) (d4_info hF4) (by rw [List.size_toArray, List.size_toArray, bvs_len, bvs_len, hyl, hF4]) (all_oneCell_toArray (oneCell_bvs _)) ?_)
        | fail)
      obtain ⟨X, hX, x19, bX⟩ := newRow W5 (bvs y4).toArray (bvs C).toArray 41
      rw [hX]
      have hzX := (Array.getElem?_eq_some_iff.1 x19).1
      have hb5X : Below wr.heap.size wr X := hb5.trans (bX.mono hb5.size)
      have hcS : Sl X X.heap.size 1 (some ⟨W5.heap.size, 0, none⟩) 4 (bvs C) := by
        have := Sl.new (sz := 1) (n := 4) x19 (by simp [bvs_len, hF4])
        exact this
      have hsC := HR.out.1.below hb5X
      have hBX := bNext HR.out.2 hb5X
      have hzb := hb5X.size
      have HX := Lib.hid hBX
      clear hX bX hb5 hb5X hBX x19 hyZ hyl HR
      let S : World → Prop := fun w' => Below X.heap.size X w'
      have hS0 : S X.drew := (Below.refl _ _).drew
      have rb := fun w' (h : S w') c c' => bytes_eqT (c := c) (c' := c') w' ((hsC.mono hzb).below (show Below X.heap.size X w' from h)) (hcS.below (show Below X.heap.size X w' from h))
      clear hsC hcS
      refine wp_region_held (S := S) (by kernel_rfl) ?_
      change wpAnyH _ _ _ _ S _ _ _ X.drew
      refine wpAnyH_take (i := 0) (oi := ?oi_1) (v := ?v_1) ?ho_1 ?h1_1 ?h2_1 ?h3_1 ?hq_1 (Or.inl ⟨?hw_1, ?hy_1⟩) ?hs_1 ?rest_1; (case h2_1 => kernel_rfl); (case h3_1 => kernel_rfl); (case ho_1 => (simp only [List.getElem?_toArray, List.getElem?_cons_zero, List.getElem?_cons_succ]; rfl)); (case h1_1 => kernel_rfl); (case hq_1 => exact fun _ _ _ h => h); (case hw_1 => rfl); (case hy_1 => (intro w' hSw; (try simp only [S] at hSw); go_simp; (try with_reducible rfl))); (case hs_1 => assumption); (try simp only [Act.put, List.setIfInBounds_toArray, List.set_cons_zero, List.set_cons_succ])
      refine wpAnyH_take (i := 1) (oi := ?oi_2) (v := ?v_2) ?ho_2 ?h1_2 ?h2_2 ?h3_2 ?hq_2 (Or.inl ⟨?hw_2, ?hy_2⟩) ?hs_2 ?rest_2; (case h2_2 => kernel_rfl); (case h3_2 => kernel_rfl); (case ho_2 => (simp only [List.getElem?_toArray, List.getElem?_cons_zero, List.getElem?_cons_succ]; rfl)); (case h1_2 => kernel_rfl); (case hq_2 => exact fun _ _ _ h => h); (case hw_2 => rfl); (case hy_2 => (intro w' hSw; (try simp only [S] at hSw); go_simp; (try with_reducible rfl))); (case hs_2 => assumption); (try simp only [Act.put, List.setIfInBounds_toArray, List.set_cons_zero, List.set_cons_succ])
      refine wpAnyH_take (i := 2) (oi := ?oi_3) (v := ?v_3) ?ho_3 ?h1_3 ?h2_3 ?h3_3 ?hq_3 (Or.inl ⟨?hw_3, ?hy_3⟩) ?hs_3 ?rest_3; (case h2_3 => kernel_rfl); (case h3_3 => kernel_rfl); (case ho_3 => (simp only [List.getElem?_toArray, List.getElem?_cons_zero, List.getElem?_cons_succ]; rfl)); (case h1_3 => kernel_rfl); (case hq_3 => exact fun _ _ _ h => h); (case hw_3 => rfl); (case hy_3 => (intro w' hSw; (try simp only [S] at hSw); go_simp; (try with_reducible rfl))); (case hs_3 => assumption); (try simp only [Act.put, List.setIfInBounds_toArray, List.set_cons_zero, List.set_cons_succ])
      refine wpAnyH_take (i := 3) (oi := ?oi_4) (v := ?v_4) ?ho_4 ?h1_4 ?h2_4 ?h3_4 ?hq_4 (Or.inl ⟨?hw_4, ?hy_4⟩) ?hs_4 ?rest_4; (case h2_4 => kernel_rfl); (case h3_4 => kernel_rfl); (case ho_4 => (simp only [List.getElem?_toArray, List.getElem?_cons_zero, List.getElem?_cons_succ]; rfl)); (case h1_4 => kernel_rfl); (case hq_4 => exact fun _ _ _ h => h); (case hw_4 => rfl); (case hy_4 => (intro w' hSw; (try simp only [S] at hSw); go_simp; (try with_reducible rfl))); (case hs_4 => assumption); (try simp only [Act.put, List.setIfInBounds_toArray, List.set_cons_zero, List.set_cons_succ])
      refine wpAnyH_take (i := 4) (oi := ?oi_5) (v := ?v_5) ?ho_5 ?h1_5 ?h2_5 ?h3_5 ?hq_5 (Or.inl ⟨?hw_5, ?hy_5⟩) ?hs_5 ?rest_5; (case h2_5 => kernel_rfl); (case h3_5 => kernel_rfl); (case ho_5 => (simp only [List.getElem?_toArray, List.getElem?_cons_zero, List.getElem?_cons_succ]; rfl)); (case h1_5 => kernel_rfl); (case hq_5 => exact fun _ _ _ h => h); (case hw_5 => rfl); (case hy_5 => (intro w' hSw; (try simp only [S] at hSw); go_simp; (try with_reducible rfl))); (case hs_5 => assumption); (try simp only [Act.put, List.setIfInBounds_toArray, List.set_cons_zero, List.set_cons_succ])
      refine wpAnyH_take (i := 5) (oi := ?oi_6) (v := ?v_6) ?ho_6 ?h1_6 ?h2_6 ?h3_6 ?hq_6 (Or.inl ⟨?hw_6, ?hy_6⟩) ?hs_6 ?rest_6; (case h2_6 => kernel_rfl); (case h3_6 => kernel_rfl); (case ho_6 => (simp only [List.getElem?_toArray, List.getElem?_cons_zero, List.getElem?_cons_succ]; rfl)); (case h1_6 => kernel_rfl); (case hq_6 => exact fun _ _ _ h => h); (case hw_6 => rfl); (case hy_6 => (intro w' hSw; (try simp only [S] at hSw); go_simp; (try with_reducible rfl))); (case hs_6 => assumption); (try simp only [Act.put, List.setIfInBounds_toArray, List.set_cons_zero, List.set_cons_succ])
      refine wpAnyH_ready (rs := [6]) (by kernel_rfl) (by simp) (AllReadyH.cons (o := ?oo6_10) ?hoo6_10 (fun K hK => ?steponly10) AllReadyH.nil); (case hoo6_10 => (simp only [List.getElem?_toArray, List.getElem?_cons_zero, List.getElem?_cons_succ]; rfl))
      go_simp
      refine Calls.mono (rb _ hS0 _ _) ?_
      rintro e w6 ⟨rfl, rfl⟩
      refine hK.out _ _ hS0 (fun _ => ?_)
      clear hK K
      (try simp only [Act.put, List.setIfInBounds_toArray, List.set_cons_zero, List.set_cons_succ])
      refine wpAnyH_take (i := 7) (oi := ?oi_7) (v := ?v_7) ?ho_7 ?h1_7 ?h2_7 ?h3_7 ?hq_7 (Or.inl ⟨?hw_7, ?hy_7⟩) ?hs_7 ?rest_7; (case h2_7 => kernel_rfl); (case h3_7 => kernel_rfl); (case ho_7 => (simp only [List.getElem?_toArray, List.getElem?_cons_zero, List.getElem?_cons_succ]; rfl)); (case h1_7 => kernel_rfl); (case hq_7 => exact fun _ _ _ h => h); (case hw_7 => rfl); (case hy_7 => (intro w' hSw; (try simp only [S] at hSw); go_simp; (try with_reducible rfl))); (case hs_7 => assumption); (try simp only [Act.put, List.setIfInBounds_toArray, List.set_cons_zero, List.set_cons_succ])
      refine wpAnyH_ready (rs := [8]) (by kernel_rfl) (by simp) (AllReadyH.cons (o := ?oo8_11) ?hoo8_11 (fun K hK => ?steponly11) AllReadyH.nil); (case hoo8_11 => (simp only [List.getElem?_toArray, List.getElem?_cons_zero, List.getElem?_cons_succ]; rfl))
      go_simp
      refine Calls.mono (wakes03_any _) ?_
      rintro e W9 ⟨rfl, hb9⟩
      have hS9 : S W9 := hS0.trans (hb9.mono (Nat.le_refl _))
      refine hK.out _ _ hS9 (fun _ => ?_)
      clear hK K
      (try simp only [Act.put, List.setIfInBounds_toArray, List.set_cons_zero, List.set_cons_succ])
      refine wpAnyH_take (i := 9) (oi := ?oi_8) (v := ?v_8) ?ho_8 ?h1_8 ?h2_8 ?h3_8 ?hq_8 (Or.inl ⟨?hw_8, ?hy_8⟩) ?hs_8 ?rest_8; (case h2_8 => kernel_rfl); (case h3_8 => kernel_rfl); (case ho_8 => (simp only [List.getElem?_toArray, List.getElem?_cons_zero, List.getElem?_cons_succ]; rfl)); (case h1_8 => kernel_rfl); (case hq_8 => exact fun _ _ _ h => h); (case hw_8 => rfl); (case hy_8 => (intro w' hSw; (try simp only [S] at hSw); go_simp; (try with_reducible rfl))); (case hs_8 => assumption); (try simp only [Act.put, List.setIfInBounds_toArray, List.set_cons_zero, List.set_cons_succ])
      refine wpAnyH_take (i := 10) (oi := ?oi_9) (v := ?v_9) ?ho_9 ?h1_9 ?h2_9 ?h3_9 ?hq_9 (Or.inl ⟨?hw_9, ?hy_9⟩) ?hs_9 ?rest_9; (case h2_9 => kernel_rfl); (case h3_9 => kernel_rfl); (case ho_9 => (simp only [List.getElem?_toArray, List.getElem?_cons_zero, List.getElem?_cons_succ]; rfl)); (case h1_9 => kernel_rfl); (case hq_9 => exact fun _ _ _ h => h); (case hw_9 => rfl); (case hy_9 => (intro w' hSw; (try simp only [S] at hSw); go_simp; (try with_reducible rfl))); (case hs_9 => assumption); (try simp only [Act.put, List.setIfInBounds_toArray, List.set_cons_zero, List.set_cons_succ])
      refine wpAnyH_done (by kernel_rfl) ?_ _
      go_wp2_with fail
      go_ret
      exact Ret.mk rfl (bNext HX.out hS9)
set_option maxRecDepth 100000 in
theorem objectBack_walk {H : Type} {enc : TypeId × Value → H} {W : World} {base : Nat} {v0 v1 : Value} {d0 d1 : DataW H} {p0 p1 : List MemPlace}
    (k0 : Value.okWide Try.prog W .any base 3 v0) (h0 : DataW.Trod enc Try.prog W 0 (fun _ => true) true 3 v0 d0 p0)
    (k1 : Value.okWide Try.prog W .any base 22 v1) (h1 : DataW.Trod enc Try.prog W 0 (fun _ => true) true 22 v1 d1 p1)
    : Calls Try.prog 4 #[v0, v1] W fun e W' => e = .returned (.bool true) ∧ Below W.heap.size W W' := by
  obtain ⟨za, rfl, _, _, _⟩ := open_int Try.underlying3 k0 h0
  obtain ⟨A0, n0, c0, b, rfl, hl, hn0, hc0, -, hsl⟩ := open_bytes_sl Try.underlying22 Try.underlying5 (by kernel_rfl) k1 h1
  by_cases h : 2000 < n0
  · exact big_back W h
  · by_cases ho : 1 ≤ za ∧ za ≤ 6 ∧ n0 ≤ 1000
    · exact yes_back W hsl hl ho.1 ho.2.1 ho.2.2
    · exact no_back W hsl hl (by omega) (by omega)
end Go.Proofs.Ythmjkgpfnpdddaa
