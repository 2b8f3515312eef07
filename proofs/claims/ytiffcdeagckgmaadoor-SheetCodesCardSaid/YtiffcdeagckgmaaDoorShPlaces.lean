/- SheetPlaces: the walk. -/
import Derived.Test.YtiffcdeagckgmaaDoorShWakes
import Derived.Test.YtiffcdeagckgmaaDoorShFair
namespace Go.Proofs.YtiffcdeagckgmaaDoor
set_option linter.unusedSimpArgs false
set_option linter.unusedVariables false
open Go.RowKit Go.ChangeShapes Go.WideShapes Go.Sort Go.Deep
attribute [-go_sem] Builtin.append_

section
variable {H : Type} {enc : TypeId × Value → H} {w : World}
set_option maxRecDepth 100000 in
theorem open_slLN {fuel : Nat} {cs0 : List Value} {x0 : DataW H × List MemPlace} (h : DataW.trod enc Tryd.prog w 0 (fun _ => true) true fuel 22 cs0 = some x0) :
    ∃ A n c, ∃ l : List (LN × List PC), cs0 = [.slice A n c] ∧ RnAt w w.heap.size A n c l ∧ c ≤ maxLen := by
  obtain ⟨A, n, c, l, h1, h2, h3, h4, h5, h6, h7⟩ := open_sl (encA := fun x : LN × List PC => x.1.cells)
    (ok := fun r => (-9223372036854775808 ≤ r.1.kind ∧ r.1.kind ≤ 9223372036854775807) ∧ ∃ A' n' c', r.1.pv = .slice A' n' c' ∧ PcAt w w.heap.size A' n' c' r.2) (sz := 5) Tryd.underlying22 (by kernel_rfl) (by omega) (fun x => rfl)
    (fun fuel cs x h => dec_ln fuel cs x h) h
  refine ⟨A, n, c, l, h1, ⟨⟨by unfold lnsOf; rw [List.length_map, h2], ?_, h3, fun x hx => ?_⟩, fun r hr => (h7 r hr).2⟩, h4⟩
  · unfold lns lnsOf; rw [List.flatMap_map]; exact h6
  · obtain ⟨r, hr, rfl⟩ := List.mem_map.1 hx; exact (h7 r hr).1
set_option maxRecDepth 100000 in
/-- a sheet by value -/
theorem open_sheet {base : Nat} {v : Value} {d : DataW H} {p : List MemPlace} (hv : Value.okWide Tryd.prog w .any base 24 v) (h : DataW.Trod enc Tryd.prog w 0 (fun _ => true) true 24 v d p) :
    ∃ num A n c, ∃ l : List (LN × List PC), v = .agg #[.int .i64 num, .slice A n c] ∧ (-9223372036854775808 ≤ num ∧ num ≤ 9223372036854775807) ∧ RnAt w w.heap.size A n c l ∧ c ≤ maxLen := by
  obtain ⟨cs, rfl, hs⟩ := okWide_struct Tryd.underlying24 hv
  obtain ⟨fuel, hf⟩ := h
  have hC : Tryd.prog.cellsOf 24 = 2 := by kernel_rfl
  obtain ⟨fs, ht, hfd⟩ : ∃ fs, Tryd.prog.underlying 24 = some (.struct fs) ∧ (∃ f, fs[0]? = some f ∧ f.offset = 0 ∧ f.type = 3) ∧ (∃ f, fs[1]? = some f ∧ f.offset = 1 ∧ f.type = 22) :=
    ⟨_, Tryd.underlying24, ⟨_, rfl, rfl, rfl⟩, ⟨_, rfl, rfl, rfl⟩⟩
  obtain ⟨⟨f0, a0, b0, t0⟩, ⟨f1, a1, b1, t1⟩⟩ := hfd
  obtain ⟨xs, m, _, _, hlen, hxl, hx⟩ := DataW.trod_struct ht hf
  have c1 : Tryd.prog.cellsOf 3 = 1 := by kernel_rfl
  have c2 : Tryd.prog.cellsOf 22 = 1 := by kernel_rfl
  have h0 := hx 0 f0 a0
  have h1 := hx 1 f1 a1
  rw [b0, t0, c1, List.getElem?_eq_getElem (by rw [hxl]; exact (Array.getElem?_eq_some_iff.1 a0).1)] at h0
  rw [b1, t1, c2, List.getElem?_eq_getElem (by rw [hxl]; exact (Array.getElem?_eq_some_iff.1 a1).1)] at h1
  obtain ⟨z0, e0, w0⟩ := dec_int Tryd.underlying3 _ _ _ h0
  obtain ⟨A, n, c, l, e1, h2, h3⟩ := open_slLN h1
  rw [hC] at hs
  refine ⟨z0, A, n, c, l, ?_, wf64 w0, h2, h3⟩
  obtain ⟨cl⟩ := cs
  match cl, hs with
  | [x0, x1], _ =>
    simp only [Value.cells, List.drop_zero, List.drop_succ_cons, List.take_succ_cons, List.take_zero, List.cons.injEq, and_true] at e0 e1
    subst e0 e1
    rfl
end
theorem own_ne {w : World} {base n sz e : Nat} {T T' : TypeId} {v : Value} {xs : List Value} {cs : Array Value} (h : w.ownsRow base T sz v n xs) (he : w.heap[e]? = some (.cells cs T')) (ht : T ≠ T') : v.ownBlock ≠ some e := by
  intro hq
  rcases h.2 with ⟨e1, -⟩ | ⟨g, cap, cur, e1, -, e3, -⟩
  · rw [e1] at hq; cases hq
  · rw [e1] at hq
    simp only [Value.ownBlock, Option.some.injEq] at hq
    subst hq
    rw [he] at e3
    cases e3
    exact ht rfl
theorem or_bits : ∀ n : Fin 16, (n.val < 4 → bits .or .u8 (n.val : Int) 4 = ((n.val + 4 : Nat) : Int)) ∧ (n.val < 8 → bits .or .u8 (n.val : Int) 8 = ((n.val + 8 : Nat) : Int)) ∧ bits .or .u8 (n.val : Int) 16 = ((n.val + 16 : Nat) : Int) := by decide +kernel
set_option maxRecDepth 100000 in
set_option maxHeartbeats 16000000 in
theorem sheetPlaces_walk {H : Type} {enc : TypeId × Value → H} {W : World} {base : Nat} {v0 : Value} {d0 : DataW H} {p0 : List MemPlace}
    (k0 : Value.okWide Tryd.prog W .any base 24 v0) (h0 : DataW.Trod enc Tryd.prog W 0 (fun _ => true) true 24 v0 d0 p0) (hT : Tabs W)
    : Calls Tryd.prog 5 #[v0] W fun e W' => e = .returned (.bool true) ∧ Below W.heap.size W W' := by
  obtain ⟨num, A, n, c, l, rfl, hnum, hl, hc⟩ := open_sheet k0 h0
  clear k0 h0
  have hcn := hl.ln.cap
  have hm9 := hc
  simp only [maxLen] at hm9
  have hn9 : (n : Int) ≤ 9223372036854775807 := by omega
  have HT := Lib.hid hT
  have HL := Lib.hid (And.intro hl hc)
  clear hl hc hT hcn
  go_enter Tryd.func5, Tryd.ntmps5
  go_wp2_with fail
  obtain ⟨W0, hW0⟩ : ∃ q, W.alloc (.cells #[.int .i64 num, .slice A n c] 24) = q := ⟨_, rfl⟩
  have r0 : W0.heap[W.heap.size]? = some (.cells #[.int .i64 num, .slice A n c] 24) := by rw [← hW0]; exact heap_alloc_new _ _
  have b0 : Below W.heap.size W W0 := by rw [← hW0]; exact (Below.refl _ _).alloc (Nat.le_refl _) _
  rw [hW0]
  clear hW0
  have hz0 := (Array.getElem?_eq_some_iff.1 r0).1
  have HW0 := Lib.hid (And.intro r0 b0)
  clear r0 b0
  refine Calls.mono (fair_any W0 (HL.out.1.nxt HW0.out.2) HL.out.2) ?_
  rintro e w1 ⟨fb, rfl, -, b1⟩
  have hW1 := bNext HW0.out.2 b1
  have r1 := bBlk b1 hz0 HW0.out.1
  cases fb
  · have HB := Lib.hid hW1
    clear hW1 r1 b1
    go_wp2_with fail
    refine Calls.mono (wakes_any _ (HT.out.below HB.out)) ?_
    rintro e w2 ⟨rfl, b2⟩
    have HB2 := Lib.hid (bNext HB.out b2)
    clear b2
    go_wp2_with fail
    go_ret
    exact ⟨rfl, HB2.out⟩
  · have k0 : w1.cell? ⟨W.heap.size, 0, none⟩ = some (.int .i64 num) := blk_cell r1 rfl
    have k1 : w1.cell? ⟨W.heap.size, 1, none⟩ = some (.slice A n c) := blk_cell r1 rfl
    have hz1 := (Array.getElem?_eq_some_iff.1 r1).1
    by_cases hgood : GoodP num l
    · have hE := enc_yes hnum w1 (HL.out.1.nxt hW1) HL.out.2 (HT.out.below hW1) hgood
      have HE := Lib.hid hE
      have HG := Lib.hid hgood
      have HB := Lib.hid (And.intro hW1 r1)
      clear hE hgood hW1 r1 b1
      go_wp2_with fail
      refine Calls.mono HE.out ?_
      rintro e V ⟨A2, n2, c2, rfl, hn2, hnc2, hcm2, -, hsl2, b2⟩
      obtain ⟨⟨⟨y1, y2, y3⟩, y4, y5⟩, y6⟩ := HG.out
      have hW2 := bNext HB.out.1 b2
      have r2 := bBlk b2 hz1 HB.out.2
      have hgV : W.heap.size < V.heap.size := by have := b2.size; omega
      have hlV := HL.out.1.nxt hW2
      have hln := hlV.len
      have hn20 : n ≤ 20 := by omega
      have j0 : V.cell? ⟨W.heap.size, 0, none⟩ = some (.int .i64 num) := blk_cell r2 rfl
      have j1 : V.cell? ⟨W.heap.size, 1, none⟩ = some (.slice A n c) := blk_cell r2 rfl
      have g1 : IntKind.u8.wrap num = num := by rw [IntKind.wrap_u8]; omega
      have hoc : (bvs [u8 num, u8 (n : Int)]).toArray = #[Value.int .u8 num, .int .u8 (n : Int)] := by
        simp only [bvs, List.map_cons, List.map_nil, bv_u8]
        rw [Int.emod_eq_of_lt (by omega) (by omega), Int.emod_eq_of_lt (by omega) (by omega)]
      have hx42 : Sl (V.alloc (.cells #[Value.int .u8 num, .int .u8 (n : Int)] 5)) (V.alloc (.cells #[Value.int .u8 num, .int .u8 (n : Int)] 5)).heap.size 1 (some ⟨V.heap.size, 0, none⟩) 2 (bvs [u8 num, u8 (n : Int)]) := by
        rw [← hoc]
        exact Sl.new (sz := 1) (n := 2) (heap_alloc_new V _) rfl
      have hbs : V.heap.size ≤ (V.alloc (.cells #[Value.int .u8 num, .int .u8 (n : Int)] 5)).heap.size := by simp
      have HY := Lib.hid (And.intro y4 (And.intro y5 (And.intro hlV (And.intro hln (And.intro hsl2 (And.intro hn2 (And.intro hW2 r2)))))))
      clear y3 y4 y5 y6 hlV hln hsl2 hn2 hW2 r2 hoc b2 k0 k1
      go_upto_region 7 with (fail)
      go_wp2_with (first
        | (refine wpList_app _ rfl (.tmp 34) (.tmp 42) 25 rfl (base := V.heap.size) Tryd.underlying25 elemC rfl (World.ownsRow_nil _ _ _ _) rfl hx42 (oneCell_bvs _) (by simp only [maxLen]; omega) (by omega) hbs ?_)
        | fail)
      intro A43 c43 w43 hown43 hg43 hb43 hat43
      have hbV : Below V.heap.size V w43 := ((Below.refl _ _).alloc (Nat.le_refl _) _).trans hb43
      have HO := Lib.hid (And.intro hown43 hbV)
      clear hown43 hg43 hb43 hat43 hbV hx42 hbs j0 j1 g1
      (try simp only [Act.put, List.setIfInBounds_toArray, List.set_cons_zero, List.set_cons_succ])
      go_wp2_with fail
      go_loopw [5, 6] (fun s5 s6 wr => ∃ (i m : Nat) (A5 : Option Addr) (c5 : Nat), i ≤ n ∧ m ≤ 2 + i * 51602 ∧ s6 = .int .i64 i ∧ s5 = .slice A5 m c5 ∧ Hid (m = ([YtiffcdeagckgmaaDoor.u8 num, YtiffcdeagckgmaaDoor.u8 (n : Int)] ++ (l.take i).flatMap lineB).length ∧ wr.ownsRow V.heap.size 5 1 (.slice A5 m c5) m (bvs ([YtiffcdeagckgmaaDoor.u8 num, YtiffcdeagckgmaaDoor.u8 (n : Int)] ++ (l.take i).flatMap lineB))) ∧ Below V.heap.size V wr) (fun _ q _ => n - (intOf q).toNat)
      case atStart => exact ⟨0, 0 + 2, _, _, by omega, by omega, rfl, rfl, Lib.hid ⟨by simp, by simpa using HO.out.1⟩, HO.out.2⟩
      case round =>
        clear HO
        obtain ⟨i, m, A5, c5, hi, hm, rfl, rfl, HI, hbr⟩ := hrel
        have j1 : wr.cell? ⟨W.heap.size, 1, none⟩ = some (.slice A n c) := blk_cell (bBlk hbr hgV HY.out.2.2.2.2.2.2.2) rfl
        by_cases hlt : i < n
        · obtain ⟨⟨x, px⟩, hx⟩ : ∃ x, l[i]? = some x := ⟨_, List.getElem?_eq_getElem (by rw [HY.out.2.2.2.1]; exact hlt)⟩
          have g4 : (i : Int) < n := by omega
          have hzr := hbr.size
          have hLr := HY.out.2.2.1.below hbr
          have hok := HY.out.1 _ (List.mem_of_getElem? hx)
          obtain ⟨o1, o2, o3⟩ := hok
          obtain ⟨b, o, A1, n1, c1, rfl, hbB, hrow, hpv, hpc⟩ := hLr.entry hx
          simp only at hrow hpv hpc o1 o2 o3
          have hone : x.One := by unfold LN.One; rw [hpv]; rfl
          have ix := ln_linfo x
          have jx := ln_info x
          have ox := one_ln hone
          obtain ⟨Y, hYY, y5, bY⟩ := newRow wr #[.int .i64 0, .bool false, .bool false, .bool false, .slice none 0 0] x.cells.toArray 45
          have hownY := own_below HI.out.2 bY
          have hbY := hbr.trans (bY.mono hzr)
          have hn1 := hpc.len
          have HP := Lib.hid (And.intro hx (And.intro hpv (And.intro hn1 (And.intro hownY (And.intro hbY y5)))))
          clear hx hpc hLr hn1 hownY hbY y5
          go_upto_region 12 with (first
            | (refine wpList_load_mid rfl 45 (.tmp 54) rfl b (o + i * 5) rfl x.cells _ hrow Tryd.underlying45 rfl ix ?_)
            | (refine wpList_new rfl lnZ rfl ?_)
            | (refine wpList_store_row rfl 45 (.tmp 7) (.tmp 55) rfl _ x.cells.toArray rfl rfl _ _ (heap_alloc_new _ _) jx rfl ox ?_)
            | fail)
          (try simp only [Act.put, List.setIfInBounds_toArray, List.set_cons_zero, List.set_cons_succ])
          try rw [hYY]
          obtain ⟨e, he⟩ : ∃ q, wr.heap.size = q := ⟨_, rfl⟩
          rw [he]
          obtain ⟨hx, -, hn1, hownY, hbY, y5⟩ := HP.out
          rw [he] at y5 hzr
          have heY : e < Y.heap.size := (Array.getElem?_eq_some_iff.1 y5).1
          obtain ⟨K0, hK0⟩ : ∃ K0 : Nat, x.kind = K0 := ⟨x.kind.toNat, by omega⟩
          obtain ⟨f1, hf1⟩ : ∃ q, x.first = q := ⟨_, rfl⟩
          obtain ⟨f2, hf2⟩ : ∃ q, x.last = q := ⟨_, rfl⟩
          obtain ⟨f3, hf3⟩ : ∃ q, x.over = q := ⟨_, rfl⟩
          have k0 : Y.cell? ⟨e, 0, none⟩ = some (.int .i64 x.kind) := blk_cell y5 rfl
          have k1 : Y.cell? ⟨e, 1, none⟩ = some (.bool x.first) := blk_cell y5 rfl
          have k2 : Y.cell? ⟨e, 2, none⟩ = some (.bool x.last) := blk_cell y5 rfl
          have k3 : Y.cell? ⟨e, 3, none⟩ = some (.bool x.over) := blk_cell y5 rfl
          have k4 : Y.cell? ⟨e, 4, none⟩ = some x.pv := blk_cell y5 rfl
          rw [hpv] at k4
          rw [hK0] at k0 o1 o2
          rw [hf1] at k1
          rw [hf2] at k2
          rw [hf3] at k3
          obtain ⟨K1, hK1⟩ : ∃ q : Nat, K0 + (if f1 then 4 else 0) = q := ⟨_, rfl⟩
          obtain ⟨K2, hK2⟩ : ∃ q : Nat, K1 + (if f2 then 8 else 0) = q := ⟨_, rfl⟩
          obtain ⟨K3, hK3⟩ : ∃ q : Nat, K2 + (if f3 then 16 else 0) = q := ⟨_, rfl⟩
          have t1 : K0 ≤ 3 := by omega
          have t2 : K1 < 8 := by rw [← hK1]; split <;> omega
          have t3 : K2 < 16 := by rw [← hK2]; split <;> omega
          have t4 : K3 < 32 := by rw [← hK3]; split <;> omega
          have hmk : (K3 : Int) = mkB x := by
            unfold mkB
            rw [addB_all, hK0, hf1, hf2, hf3, ← hK3, ← hK2, ← hK1]
            cases f1 <;> cases f2 <;> cases f3 <;> simp <;> omega
          have p1 := (or_bits ⟨K0, by omega⟩).1 (by show K0 < 4; omega)
          have p2 := (or_bits ⟨K1, by omega⟩).2.1 t2
          have p3 := (or_bits ⟨K2, t3⟩).2.2
          simp only at p1 p2 p3
          have gK : IntKind.u8.wrap (K0 : Int) = K0 := by rw [IntKind.wrap_u8]; omega
          have HK := Lib.hid (And.intro hK1 (And.intro hK2 (And.intro hK3 (And.intro p1 (And.intro p2 p3)))))
          have HM := Lib.hid hmk
          have HE2 := Lib.hid (And.intro hx (And.intro hn1 (And.intro hownY (And.intro hbY y5))))
          have hzz := hzr
          clear hK1 hK2 hK3 p1 p2 p3 hmk hx hn1 hownY hbY y5 hf1 hf2 hf3 hK0 hYY he
          go_upto_if 60 with (fail)
          go_cut [8] from 61 to 62 (fun s8 wz => s8 = .int .u8 (K1 : Int) ∧ wz = Y)
          case first =>
            cases f1
            · go_wp2_with fail
              go_meet
              exact ⟨by rw [← HK.out.1]; rfl, rfl⟩
            · have q := HK.out.2.2.2.1
              have q2 := HK.out.1
              simp only [if_true] at q2
              rw [q2] at q
              clear q2
              go_wp2_with fail
              go_meet
              exact ⟨rfl, rfl⟩
          case rest =>
            obtain ⟨rfl, hwz⟩ := hcut
            have hwz' := hwz.symm
            subst hwz'
            clear k0 k1 gK
            go_upto_if 64 with (fail)
            go_cut [8] from 65 to 66 (fun s8 wz => s8 = .int .u8 (K2 : Int) ∧ wz = Y)
            case first =>
              cases f2
              · go_wp2_with fail
                go_meet
                exact ⟨by rw [← HK.out.2.1]; rfl, rfl⟩
              · have q := HK.out.2.2.2.2.1
                have q2 := HK.out.2.1
                simp only [if_true] at q2
                rw [q2] at q
                clear q2
                go_wp2_with fail
                go_meet
                exact ⟨rfl, rfl⟩
            case rest =>
              obtain ⟨rfl, hwz⟩ := hcut
              have hwz' := hwz.symm
              subst hwz'
              clear k2
              go_upto_if 68 with (fail)
              go_cut [8] from 69 to 70 (fun s8 wz => s8 = .int .u8 (K3 : Int) ∧ wz = Y)
              case first =>
                cases f3
                · go_wp2_with fail
                  go_meet
                  exact ⟨by rw [← HK.out.2.2.1]; rfl, rfl⟩
                · have q := HK.out.2.2.2.2.2
                  have q2 := HK.out.2.2.1
                  simp only [if_true] at q2
                  rw [q2] at q
                  clear q2
                  go_wp2_with fail
                  go_meet
                  exact ⟨rfl, rfl⟩
              case rest =>
                obtain ⟨rfl, hwz⟩ := hcut
                have hwz' := hwz.symm
                subst hwz'
                clear k3 HK
                obtain ⟨hx, hn1, hownY, hbY, y5⟩ := HE2.out
                have hn200 : n1 ≤ 200 := by omega
                have gn : IntKind.u8.wrap (n1 : Int) = n1 := by rw [IntKind.wrap_u8]; omega
                have hoc : (bvs [YtiffcdeagckgmaaDoor.u8 (mkB x), YtiffcdeagckgmaaDoor.u8 (n1 : Int)]).toArray = #[Value.int .u8 (K3 : Int), .int .u8 (n1 : Int)] := by
                  simp only [bvs, List.map_cons, List.map_nil, bv_u8]
                  rw [← HM.out, Int.emod_eq_of_lt (by omega) (by omega), Int.emod_eq_of_lt (by omega) (by omega)]
                have hx77 : Sl (Y.alloc (.cells #[Value.int .u8 (K3 : Int), .int .u8 (n1 : Int)] 5)) (Y.alloc (.cells #[Value.int .u8 (K3 : Int), .int .u8 (n1 : Int)] 5)).heap.size 1 (some ⟨Y.heap.size, 0, none⟩) 2 (bvs [YtiffcdeagckgmaaDoor.u8 (mkB x), YtiffcdeagckgmaaDoor.u8 (n1 : Int)]) := by
                  rw [← hoc]
                  exact Sl.new (sz := 1) (n := 2) (heap_alloc_new Y _) rfl
                have hYV : V.heap.size ≤ Y.heap.size := hbY.size
                have hbs : V.heap.size ≤ (Y.alloc (.cells #[Value.int .u8 (K3 : Int), .int .u8 (n1 : Int)] 5)).heap.size := by simp; omega
                have hownY2 := hownY.alloc (.cells #[Value.int .u8 (K3 : Int), .int .u8 (n1 : Int)] 5)
                have hmm : m ≤ 2000000 := by omega
                clear hoc hx hn1 hownY hbY y5
                go_upto_region 19 with (fail)
                go_wp2_with (first
                  | (refine wpList_app _ rfl (.tmp 71) (.tmp 77) 25 rfl (base := V.heap.size) Tryd.underlying25 elemC rfl hownY2 rfl hx77 (oneCell_bvs _) (by simp only [maxLen]; omega) (by omega) hbs ?_)
                  | fail)
                intro A78 c78 w78 hown78 hg78 hb78 hat78
                obtain ⟨hx, hn1, hownY, hbY, y5⟩ := HE2.out
                have hbA : Below Y.heap.size Y (Y.alloc (.cells #[Value.int .u8 (K3 : Int), .int .u8 (n1 : Int)] 5)) := (Below.refl _ _).alloc (Nat.le_refl _) _
                have hg78' : World.grownBy (Y.alloc (.cells #[Value.int .u8 (K3 : Int), .int .u8 (n1 : Int)] 5)) w78 (Value.slice A5 m c5).ownBlock := hg78
                have hne : (Value.slice A5 m c5).ownBlock ≠ some e := own_ne hownY y5 (by decide)
                have hbe : w78.heap[e]? = some (.cells x.cells.toArray 45) := (hg78'.block e (by have := hbA.size; omega) (fun h => hne h.symm)).trans (bBlk hbA heY y5)
                have hB78 : Below V.heap.size V w78 := (hbY.trans (hbA.mono hYV)).trans hb78
                have HO := Lib.hid (And.intro hown78 (And.intro hB78 hbe))
                have HX := Lib.hid (And.intro hx (And.intro hn1 hpv))
                clear hx hn1 hpv hownY hbY y5 hown78 hg78 hg78' hb78 hat78 hbA hne hbe hB78 hx77 hownY2 hbs gn k4 hYV HE2 heY
                (try simp only [Act.put, List.setIfInBounds_toArray, List.set_cons_zero, List.set_cons_succ])
                go_wp2_with fail
                go_loopw [5, 9] (fun s5 s9 wi => ∃ (j m2 : Nat) (A6 : Option Addr) (c6 : Nat), j ≤ n1 ∧ m2 ≤ m + 2 + j * 258 ∧ s9 = .int .i64 j ∧ s5 = .slice A6 m2 c6 ∧ wi.heap[e]? = some (.cells x.cells.toArray 45) ∧ Hid (m2 = m + 2 + ((px.take j).flatMap pieceB).length ∧ wi.ownsRow V.heap.size 5 1 (.slice A6 m2 c6) m2 (bvs ([YtiffcdeagckgmaaDoor.u8 num, YtiffcdeagckgmaaDoor.u8 (n : Int)] ++ (l.take i).flatMap lineB ++ ([YtiffcdeagckgmaaDoor.u8 (mkB x), YtiffcdeagckgmaaDoor.u8 (n1 : Int)] ++ (px.take j).flatMap pieceB)))) ∧ Below V.heap.size V wi) (fun _ q _ => n1 - (intOf q).toNat)
                case atStart => exact ⟨0, m + 2, _, _, by omega, by omega, rfl, rfl, HO.out.2.2, Lib.hid ⟨by simp, by have := HO.out.1; rw [← bvs_append] at this; simpa using this⟩, HO.out.2.1⟩
                case round =>
                  clear HO j1
                  obtain ⟨j, m2, A6, c6, hj, hm2, rfl, rfl, hE, HI2, hbj⟩ := hrel
                  have k4 : wr.cell? ⟨e, 4, none⟩ = some x.pv := blk_cell hE rfl
                  rw [HX.out.2.2] at k4
                  have heR := (Array.getElem?_eq_some_iff.1 hE).1
                  by_cases hlj : j < n1
                  · obtain ⟨p, hp⟩ : ∃ p, px[j]? = some p := ⟨_, List.getElem?_eq_getElem (by rw [HX.out.2.1]; exact hlj)⟩
                    have g5 : (j : Int) < n1 := by omega
                    have hpok : pcOk p := HY.out.2.1 p (by
                      obtain ⟨t, ht⟩ := flatP_pre HX.out.1
                      rw [ht]
                      exact List.mem_append.2 (.inl (List.mem_append.2 (.inr (List.mem_of_getElem? hp)))))
                    obtain ⟨p1, p2, p3, p4, -⟩ := hpok
                    have hzj := hbj.size
                    have hpcr : PcAt wr V.heap.size A1 n1 c1 px := by
                      obtain ⟨_, _, A3, n3, c3, -, -, -, e1, e2⟩ := (HY.out.2.2.1.below hbj).entry HX.out.1
                      simp only at e1 e2
                      rw [HX.out.2.2] at e1
                      cases e1
                      exact e2
                    obtain ⟨pb, po, rfl, hpB, hprow⟩ := hpcr.entry hp
                    have ix := pc_info2 p
                    have jx : (Tryd.prog.info? 47).map (·.size) = some p.cells.toArray.size := pc_size
                    have ox := one_pc p
                    obtain ⟨Z, hZZ, z5, bZ⟩ := newRow wr #[.int .i64 0, .string ⟨#[]⟩] p.cells.toArray 47
                    have hownZ := own_below HI2.out.2 bZ
                    have hbZ := hbj.trans (bZ.mono hzj)
                    have hEZ := bBlk bZ heR hE
                    have z0 : Z.cell? ⟨wr.heap.size, 0, none⟩ = some (.int .i64 p.x) := blk_cell z5 rfl
                    have z1 : Z.cell? ⟨wr.heap.size, 1, none⟩ = some (.string p.s) := blk_cell z5 rfl
                    have HZ := Lib.hid (And.intro hp (And.intro hownZ (And.intro hbZ (And.intro z5 hEZ))))
                    clear hp hownZ hbZ hpcr hE z5 hEZ
                    go_upto_region 24 with (first
                      | (refine wpList_load_mid rfl 47 (.tmp 89) rfl pb (po + j * 2) rfl p.cells _ hprow Tryd.underlying47 rfl ix ?_)
                      | (refine wpList_new rfl pcZ' rfl ?_)
                      | (refine wpList_store_row rfl 47 (.tmp 10) (.tmp 90) rfl _ p.cells.toArray rfl rfl _ _ (heap_alloc_new _ _) jx rfl ox ?_)
                      | fail)
                    (try simp only [Act.put, List.setIfInBounds_toArray, List.set_cons_zero, List.set_cons_succ])
                    try rw [hZZ]
                    clear hZZ hprow
                    obtain ⟨hp, hownZ, hbZ, z5, hEZ⟩ := HZ.out
                    have hm9' : m2 ≤ 2000000 := by omega
                    have hbzZ : V.heap.size ≤ Z.heap.size := hbZ.size
                    have HZ2 := Lib.hid (And.intro hp (And.intro hbZ (And.intro z5 hEZ)))
                    clear hp hbZ z5 hEZ
                    have hoc3 : (bvs [YtiffcdeagckgmaaDoor.u8 (p.x / 256), YtiffcdeagckgmaaDoor.u8 p.x, YtiffcdeagckgmaaDoor.u8 (p.s.size : Int)]).toArray = #[Value.int .u8 (p.x / 256), .int .u8 (p.x % 256), .int .u8 (p.s.size : Int)] := by
                      simp only [bvs, List.map_cons, List.map_nil, bv_u8]
                      rw [Int.emod_eq_of_lt (a := p.x / 256) (by omega) (by omega), Int.emod_eq_of_lt (a := (p.s.size : Int)) (by omega) (by omega)]
                    have hx55 : Sl (Z.alloc (.cells #[Value.int .u8 (p.x / 256), .int .u8 (p.x % 256), .int .u8 (p.s.size : Int)] 5)) (Z.alloc (.cells #[Value.int .u8 (p.x / 256), .int .u8 (p.x % 256), .int .u8 (p.s.size : Int)] 5)).heap.size 1 (some ⟨Z.heap.size, 0, none⟩) 3 (bvs [YtiffcdeagckgmaaDoor.u8 (p.x / 256), YtiffcdeagckgmaaDoor.u8 p.x, YtiffcdeagckgmaaDoor.u8 (p.s.size : Int)]) := by
                      rw [← hoc3]
                      exact Sl.new (sz := 1) (n := 3) (heap_alloc_new Z _) rfl
                    have hownZ2 := hownZ.alloc (.cells #[Value.int .u8 (p.x / 256), .int .u8 (p.x % 256), .int .u8 (p.s.size : Int)] 5)
                    have hbsZ : V.heap.size ≤ (Z.alloc (.cells #[Value.int .u8 (p.x / 256), .int .u8 (p.x % 256), .int .u8 (p.s.size : Int)] 5)).heap.size := by simp; omega
                    clear hoc3
                    go_wp2_with (first
                      | (refine wpList_app _ rfl (.tmp 91) (.tmp 104) 25 rfl (base := V.heap.size) Tryd.underlying25 elemC rfl hownZ2 rfl hx55 (oneCell_bvs _) (by simp only [maxLen]; omega) (by omega) hbsZ ?_)
                      | fail)
                    intro A56 c56 w56 hown56 hg56 hb56 hat56
                    have hbA : Below Z.heap.size Z (Z.alloc (.cells #[Value.int .u8 (p.x / 256), .int .u8 (p.x % 256), .int .u8 (p.s.size : Int)] 5)) := (Below.refl _ _).alloc (Nat.le_refl _) _
                    have hlZ : wr.heap.size < Z.heap.size := (Array.getElem?_eq_some_iff.1 HZ2.out.2.2.1).1
                    have hg56' : World.grownBy (Z.alloc (.cells #[Value.int .u8 (p.x / 256), .int .u8 (p.x % 256), .int .u8 (p.s.size : Int)] 5)) w56 (Value.slice A6 m2 c6).ownBlock := hg56
                    have hbp : w56.heap[wr.heap.size]? = some (.cells p.cells.toArray 47) :=
                      (hg56'.block wr.heap.size (by have := hbA.size; omega) (fun h => own_ne hownZ HZ2.out.2.2.1 (by decide) h.symm)).trans (bBlk hbA hlZ HZ2.out.2.2.1)
                    have hbe : w56.heap[e]? = some (.cells x.cells.toArray 45) :=
                      (hg56'.block e (by have := hbA.size; omega) (fun h => own_ne hownZ HZ2.out.2.2.2 (by decide) h.symm)).trans (bBlk hbA (by omega) HZ2.out.2.2.2)
                    have z9 : w56.cell? ⟨wr.heap.size, 1, none⟩ = some (.string p.s) := blk_cell hbp rfl
                    have hbw56 : Below V.heap.size V w56 := (HZ2.out.2.1.trans (hbA.mono hbzZ)).trans hb56
                    have hbase : V.heap.size ≤ w56.heap.size := hbw56.size
                    have HW56 := Lib.hid (And.intro hbw56 (And.intro hbe hown56))
                    clear hbw56 hg56 hg56' hat56 hb56 hbp hbe hownZ2 hbsZ hx55 hownZ hbA z0 z1
                    (try simp only [Act.put, List.setIfInBounds_toArray, List.set_cons_zero, List.set_cons_succ])
                    go_upto_region 25 with (fail)
                    refine wp_region_lit ?_
                    iterate 9 (first | go_guarded | go_step)
                    refine Lib.wpList_append_own_string _ rfl (.tmp 106) (.tmp 108) 25 9 rfl V.heap.size 5 _ Tryd.underlying25 Tryd.underlying9 rfl rfl rfl rfl _ (m2 + 3) _ rfl hown56 p.s rfl (by simp only [maxLen]; omega) (by omega) hbase ?_
                    intro v' w60 hown60 hg60 _
                    obtain ⟨A60, c60, rfl, -⟩ := own_form hown60
                    have hB60 : Below V.heap.size V w60 := by
                      have hx := HW56.out.1
                      exact ⟨hg60.os.trans hx.os, hg60.tape.trans hx.tape, hg60.output.trans hx.output, Nat.le_trans hx.size hg60.size, fun k hk => (hg60.block k (by omega) (fun e2 => by have := (hown56.lt _ e2.symm).1; omega)).trans (hx.block k hk)⟩
                    have hE60 : w60.heap[e]? = some (.cells x.cells.toArray 45) := (hg60.block e (Array.getElem?_eq_some_iff.1 HW56.out.2.1).1 (fun h => own_ne hown56 HW56.out.2.1 (by decide) h.symm)).trans HW56.out.2.1
                    have HE := Lib.hid (And.intro hown60 (And.intro hB60 hE60))
                    clear hown60 hB60 hg60 hE60 hown56 z9
                    (try simp only [Act.put, List.setIfInBounds_toArray, List.set_cons_zero, List.set_cons_succ])
                    go_wp2_with fail
                    go_roundw
                    case rel => exact ⟨j + 1, m2 + 3 + p.s.size, A60, c60, by omega, by omega, by go_num, rfl, HE.out.2.2, Lib.hid (by
                      have e3 : (pieceB p).length = 3 + p.s.size := by
                        have : p.s.data.toList.length = p.s.size := rfl
                        simp only [pieceB, List.length_append, List.length_cons, List.length_nil, this]
                      have e1 := HI2.out.1
                      have e2 := HE.out.1
                      rw [take_flat HZ2.out.1]
                      refine ⟨by rw [List.length_append, e3]; omega, ?_⟩
                      rw [strCells_bvs, ← bvs_append, ← bvs_append] at e2
                      simpa [pieceB] using e2), HE.out.2.1⟩
                    case measure => simp [intOf]; omega
                  · have hjn : j = n1 := by omega
                    clear hlj
                    go_wp2_with fail
                    go_roundw
                    case rel => exact ⟨i + 1, m2, A6, c6, by omega, by omega, by go_num, rfl, Lib.hid (by
                      have e1 := HI2.out.1
                      have e2 := HI2.out.2
                      have e3 := HI.out.1
                      have e4 := HX.out.2.1
                      have e5 : px.take j = px := by rw [hjn]; exact List.take_of_length_le (by omega)
                      rw [e5] at e1 e2
                      rw [take_flat HX.out.1]
                      simp only [lineB, ← e4] at *
                      refine ⟨by simp only [List.length_append, List.length_cons, List.length_nil] at e1 e3 ⊢; omega, ?_⟩
                      simpa using e2), hbj⟩
                    case measure => simp [intOf]; omega
        · have hin : i = n := by omega
          clear hlt
          have hE : encB num l = [YtiffcdeagckgmaaDoor.u8 num, YtiffcdeagckgmaaDoor.u8 (n : Int)] ++ (l.take i).flatMap lineB := by
            rw [List.take_of_length_le (by have := HY.out.2.2.2.1; omega), encB, HY.out.2.2.2.1]
          have hown := HI.out.2
          rw [← hE] at hown
          have hby := bytes_eqT (c := c2) (c' := c5) wr ((HY.out.2.2.2.2.1).next hbr) (Sl.of_own hown)
          have HBY := Lib.hid hby
          have HBW := Lib.hid (bNext HY.out.2.2.2.2.2.2.1 hbr)
          clear hE hown hby hbr
          go_wp2_with fail
          refine Calls.mono HBY.out ?_
          rintro e w7 ⟨rfl, rfl⟩
          go_wp2_with fail
          refine Calls.mono (wakes_any _ (HT.out.below HBW.out)) ?_
          rintro e w4 ⟨rfl, b4⟩
          have HB4 := Lib.hid (bNext HBW.out b4)
          clear b4
          go_wp2_with fail
          go_ret
          exact ⟨rfl, HB4.out⟩
    · have hE := enc_not hnum w1 (HL.out.1.nxt hW1) HL.out.2 (HT.out.below hW1) hgood
      have HE := Lib.hid hE
      have HG := Lib.hid hgood
      have HB := Lib.hid (And.intro hW1 r1)
      clear hE hgood hW1 r1 b1
      go_wp2_with fail
      refine Calls.mono HE.out ?_
      rintro e w2 ⟨A2, n2, c2, rfl, hn2, -, -, -, -, b2⟩
      simp only [List.length_nil] at hn2
      subst hn2
      have hW2 := bNext HB.out.1 b2
      have r2 := bBlk b2 hz1 HB.out.2
      have j0 : w2.cell? ⟨W.heap.size, 0, none⟩ = some (.int .i64 num) := blk_cell r2 rfl
      have j1 : w2.cell? ⟨W.heap.size, 1, none⟩ = some (.slice A n c) := blk_cell r2 rfl
      have hN := good_no hnum w2 (HL.out.1.nxt hW2) HL.out.2 (HT.out.below hW2) HG.out
      have HN := Lib.hid hN
      have HB2 := Lib.hid hW2
      clear hN hW2 r2 b2 k0 k1
      go_wp2_with fail
      refine Calls.mono HN.out ?_
      rintro e w3 ⟨rfl, b3⟩
      have HB3 := Lib.hid (bNext HB2.out b3)
      clear b3
      go_wp2_with fail
      refine Calls.mono (wakes_any _ (HT.out.below HB3.out)) ?_
      rintro e w4 ⟨rfl, b4⟩
      have HB4 := Lib.hid (bNext HB3.out b4)
      clear b4
      go_wp2_with fail
      go_ret
      exact ⟨rfl, HB4.out⟩
end Go.Proofs.YtiffcdeagckgmaaDoor
