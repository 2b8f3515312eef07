/- codexref21.Encode: the walk. -/
import Derived.Test.YtiffcdeagckgmaaDoorShBack
import Derived.Test.YtiffcdeagckgmaaDoorSgWalk
namespace Go.Proofs.YtiffcdeagckgmaaDoor
set_option linter.unusedSimpArgs false
set_option linter.unusedVariables false
open Go.RowKit Go.ChangeShapes Go.WideShapes Go.Sort Go.Deep
attribute [-go_sem] Builtin.append_

theorem step_app_str {P : Program} {ops : Array Oper} {o : Oper} {a : Act} {w : World} {K : Act → World → Prop} {Q : Exit → Act → World → Prop} {E : Prop} (hgd : o.guard = none) (sl x : Operand) (t u : TypeId)
    (ho : o.op = .call { callee := .builtin .append, args := #[sl, x], argTypes := #[t, u] })
    (base : Nat) (e : TypeId) (i : TypeInfo) (ht : P.underlying t = some (.slice e)) (hu : P.underlying u = some .string) (hi : P.info? e = some i) (hz : i.zero = some (.int .u8 0))
    (hsize : i.size = 1) (hby : i.bytes = 1)
    (v : Value) (n : Nat) (xs : List Value) (hs : a.eval sl = v) (hown : w.ownsRow base e 1 v n xs) (s : ByteArray) (hx : a.eval x = .string s)
    (h63 : n + s.size ≤ maxLen) (hbytes : n + s.size ≤ 140737488355328) (hbase : base ≤ w.heap.size)
    (h : ∀ v' w', w'.ownsRow base e 1 v' (n + s.size) (xs ++ Lib.strCells s) → w.grownBy w' v.ownBlock → K (a.put o.dst v') w') :
    if Region.wanted o (yielded ops a.tmps) = true then Oper.wp P o a w K Q else E := by
  have hw : Region.wanted o (yielded ops a.tmps) = true := by simp [Region.wanted, hgd]
  rw [if_pos hw]
  obtain ⟨v', w', hr, h2, h3, h4⟩ := Lib.run_append_own_string (P := P) w base t u o.type e i ht hu hi hz hsize hby v n xs hown s h63 hbytes hbase
  unfold Oper.wp execOp
  simp only [ho, resolve, invoke, builtin, Sem.run_bind, Sem.run_pure, Result.andThen_ok, List.map_toArray, List.map_cons, List.map_nil, hs, hx, hr]
  exact h v' w' h2 h3
theorem fld_read (A : Option Addr) (n c : Nat) (b : Bool) (W : World) : (Instr.field 56 (.agg #[.slice A n c, .bool b]) 1).run Tryd.prog W = .ok (.bool b) W := by
  simp [Instr.field, run_underlying Tryd.underlying56, part, isAgg, asAgg, run_underlying Tryd.underlying4]
def RP (w : World) (num : Int) (l : List (LN × List PC)) (e : Ending) (w' : World) : Prop := (GoodP num l ∧ EncP w (encB num l) 0 e w') ∨ (¬ GoodP num l ∧ EncP w [] 11 e w')
theorem RP.no {w w' : World} {num : Int} {l : List (LN × List PC)} (h : ¬ GoodP num l) (hb : Below w.heap.size w w') : RP w num l (.returned (.tuple #[.slice none 0 0, .int .i64 11])) w' := .inr ⟨h, EncP.no hb⟩
def Seen (l : List (LN × List PC)) (i : Nat) : Prop := ∀ (k : Nat) (r : LN × List PC), k < i → l[k]? = some r → lineOk r ∧ ∀ p ∈ r.2, pcOk p
theorem Seen.may {l : List (LN × List PC)} {num : Int} (h : Seen l l.length) (h1 : 1 ≤ num) (h2 : num ≤ 255) (h3 : l.length ≤ 20) : MayP num l := by
  refine ⟨⟨h1, h2, h3⟩, fun r hr => ?_, fun p hp => ?_⟩
  · obtain ⟨k, hk, rfl⟩ := List.getElem_of_mem hr
    exact (h k _ hk (List.getElem?_eq_getElem hk)).1
  · obtain ⟨r, hr, hp⟩ := List.mem_flatMap.1 hp
    obtain ⟨k, hk, rfl⟩ := List.getElem_of_mem hr
    exact (h k _ hk (List.getElem?_eq_getElem hk)).2 p hp
theorem enc_mono {num : Int} {l : List (LN × List PC)} {i : Nat} {x : LN} {px : List PC} (hx : l[i]? = some (x, px)) (j : Nat) : ([u8 num, u8 l.length] ++ (l.take i).flatMap lineB ++ ([u8 (mkB x), u8 px.length] ++ (px.take j).flatMap pieceB)).length ≤ (encB num l).length := by
  have e1 : l.flatMap lineB = (l.take i).flatMap lineB ++ (lineB (x, px) ++ (l.drop (i + 1)).flatMap lineB) := by
    obtain ⟨hl, e⟩ := List.getElem?_eq_some_iff.1 hx
    have : l = l.take i ++ (x, px) :: l.drop (i + 1) := by rw [← e, List.getElem_cons_drop, List.take_append_drop]
    conv => lhs; rw [this]
    rw [List.flatMap_append, List.flatMap_cons]
  have e2 : px.flatMap pieceB = (px.take j).flatMap pieceB ++ (px.drop j).flatMap pieceB := by rw [← List.flatMap_append, List.take_append_drop]
  rw [encB, e1, lineB, e2]
  simp only [List.length_append, List.length_cons, List.length_nil]
  omega
set_option maxRecDepth 100000 in
set_option maxHeartbeats 16000000 in
theorem renc_any {A : Option Addr} {n c : Nat} {num : Int} {l : List (LN × List PC)} (hnum : -9223372036854775808 ≤ num ∧ num ≤ 9223372036854775807) (w : World) (hl : RnAt w w.heap.size A n c l) (hc : c ≤ maxLen) (hn4 : n ≤ 1000000) :
    Calls Tryd.prog 11 #[.agg #[.int .i64 num, .slice A n c]] w (RP w num l) := by
  have hln := hl.len
  have HL := Lib.hid (And.intro hl hln)
  clear hl hln hc
  by_cases y1 : 1 ≤ num
  case neg =>
    have z : num < 1 := by omega
    have hno : ¬ GoodP num l := fun h => y1 h.1.1.1
    have HN := Lib.hid hno
    clear hno
    go_enter Tryd.func11, Tryd.ntmps11
    go_wp2_with fail
    go_ret2
    exact RP.no HN.out ((Below.refl _ _).alloc (Nat.le_refl _) _)
  by_cases y2 : num ≤ 255
  case neg =>
    have hno : ¬ GoodP num l := fun h => y2 h.1.1.2.1
    have HN := Lib.hid hno
    clear hno
    go_enter Tryd.func11, Tryd.ntmps11
    go_wp2_with fail
    go_ret2
    exact RP.no HN.out ((Below.refl _ _).alloc (Nat.le_refl _) _)
  by_cases hn20 : n ≤ 20
  case neg =>
    have hno : ¬ GoodP num l := fun h => hn20 (by rw [← HL.out.2]; exact h.1.1.2.2)
    have z : (20 : Int) < n := by omega
    have HN := Lib.hid hno
    clear hno
    go_enter Tryd.func11, Tryd.ntmps11
    go_wp2_with fail
    go_ret2
    exact RP.no HN.out ((Below.refl _ _).alloc (Nat.le_refl _) _)
  have z20 : ¬ (20 : Int) < n := by omega
  go_enter Tryd.func11, Tryd.ntmps11
  obtain ⟨V, hV⟩ : ∃ q, w.alloc (.cells #[.int .i64 num, .slice A n c] 24) = q := ⟨_, rfl⟩
  have r2 : V.heap[w.heap.size]? = some (.cells #[.int .i64 num, .slice A n c] 24) := by rw [← hV]; exact heap_alloc_new _ _
  have hBV : Below w.heap.size w V := by rw [← hV]; exact (Below.refl _ _).alloc (Nat.le_refl _) _
  have hgV : w.heap.size < V.heap.size := (Array.getElem?_eq_some_iff.1 r2).1
  have HVV := Lib.hid hV
  clear hV
  go_upto_region 3 with (fail)
  rw [HVV.out]
  clear HVV
  have j0 : V.cell? ⟨w.heap.size, 0, none⟩ = some (.int .i64 num) := blk_cell r2 rfl
  have j1 : V.cell? ⟨w.heap.size, 1, none⟩ = some (.slice A n c) := blk_cell r2 rfl
  have g1 : IntKind.u8.wrap num = num := by rw [IntKind.wrap_u8]; omega
  have hlV := HL.out.1.nxt hBV
  have HY := Lib.hid (And.intro hBV (And.intro r2 (And.intro hlV HL.out.2)))
  clear hBV r2 hlV
  go_wp2_with fail
  obtain ⟨W1, hW1⟩ : ∃ q, V.alloc (.cells #[Value.int .u8 num, .int .u8 (n : Int)] 5) = q := ⟨_, rfl⟩
  have b1 : W1.heap[V.heap.size]? = some (.cells (bvs [u8 num, u8 (n : Int)]).toArray 5) := by
    rw [← hW1]
    have hoc : (bvs [u8 num, u8 (n : Int)]).toArray = #[Value.int .u8 num, .int .u8 (n : Int)] := by
      simp only [bvs, List.map_cons, List.map_nil, bv_u8]
      rw [Int.emod_eq_of_lt (by omega) (by omega), Int.emod_eq_of_lt (by omega) (by omega)]
    rw [hoc]
    exact heap_alloc_new _ _
  have hbW1 : Below V.heap.size V W1 := by rw [← hW1]; exact (Below.refl _ _).alloc (Nat.le_refl _) _
  have own0 := own_lit (W := W1) (base := V.heap.size) (n := 2) (cs := bvs [u8 num, u8 (n : Int)]) (t := 5) (Nat.le_refl _) b1 (by rw [bvs_len]; rfl) (by simp [maxLen])
  rw [hW1]
  clear hW1 b1 j0 j1 g1
  go_loopw [4, 5] (fun s5 s6 wr => ∃ (i m : Nat) (A5 : Option Addr) (c5 : Nat), i ≤ n ∧ m ≤ 2 + i * 51602 ∧ s6 = .int .i64 i ∧ s5 = .slice A5 m c5 ∧ Hid (m = ([YtiffcdeagckgmaaDoor.u8 num, YtiffcdeagckgmaaDoor.u8 (n : Int)] ++ (l.take i).flatMap lineB).length ∧ wr.ownsRow V.heap.size 5 1 (.slice A5 m c5) m (bvs ([YtiffcdeagckgmaaDoor.u8 num, YtiffcdeagckgmaaDoor.u8 (n : Int)] ++ (l.take i).flatMap lineB)) ∧ Seen l i) ∧ Below V.heap.size V wr) (fun _ q _ => n - (intOf q).toNat)
  case atStart => exact ⟨0, 2, _, _, by omega, by omega, rfl, rfl, Lib.hid ⟨by simp, by simpa using own0, fun k r h => by omega⟩, hbW1⟩
  case round =>
    clear own0 hbW1
    obtain ⟨i, m, A5, c5, hi, hm, rfl, rfl, HI, hbr⟩ := hrel
    have j1 : wr.cell? ⟨w.heap.size, 1, none⟩ = some (.slice A n c) := blk_cell (bBlk hbr hgV HY.out.2.1) rfl
    by_cases hlt : i < n
    · obtain ⟨⟨x, px⟩, hx⟩ : ∃ x, l[i]? = some x := ⟨_, List.getElem?_eq_getElem (by rw [HL.out.2]; exact hlt)⟩
      have g4 : (i : Int) < n := by omega
      have hzr := hbr.size
      have hLr := HY.out.2.2.1.below hbr
      obtain ⟨b, o, A1, n1, c1, rfl, hbB, hrow, hpv, hpc⟩ := hLr.entry hx
      simp only at hrow hpv hpc
      have hone : x.One := by unfold LN.One; rw [hpv]; rfl
      have ix := ln_linfo x
      have jx := ln_info x
      have ox := one_ln hone
      obtain ⟨Y, hYY, y5, bY⟩ := newRow wr #[.int .i64 0, .bool false, .bool false, .bool false, .slice none 0 0] x.cells.toArray 45
      have hownY := own_below HI.out.2.1 bY
      have hbY := hbr.trans (bY.mono hzr)
      have hn1 := hpc.len
      have hkw := HL.out.1.ln.wide x (by unfold lnsOf; exact List.mem_map.2 ⟨_, List.mem_of_getElem? hx, rfl⟩)
      have hn1c := hpc.cap
      have hn1m := hpc.most
      simp only [maxLen] at hn1m
      have hn163 : (n1 : Int) ≤ 9223372036854775807 := by omega
      have HP := Lib.hid (And.intro hx (And.intro hpv (And.intro hn1 (And.intro hownY (And.intro hbY y5)))))
      clear hx hpc hLr hn1 hownY hbY y5 hn1c hn1m
      go_upto_region 8 with (first
        | (refine wpList_load_mid rfl 45 (.tmp 42) rfl b (o + i * 5) rfl x.cells _ hrow Tryd.underlying45 rfl ix ?_)
        | (refine wpList_new rfl lnZ rfl ?_)
        | (refine wpList_store_row rfl 45 (.tmp 6) (.tmp 43) rfl _ x.cells.toArray rfl rfl _ _ (heap_alloc_new _ _) jx rfl ox ?_)
        | fail)
      (try simp only [Act.put, List.setIfInBounds_toArray, List.set_cons_zero, List.set_cons_succ])
      try rw [hYY]
      obtain ⟨e, he⟩ : ∃ q, wr.heap.size = q := ⟨_, rfl⟩
      rw [he]
      obtain ⟨hx, -, hn1, hownY, hbY, y5⟩ := HP.out
      rw [he] at y5 hzr
      have heY : e < Y.heap.size := (Array.getElem?_eq_some_iff.1 y5).1
      obtain ⟨f1, hf1⟩ : ∃ q, x.first = q := ⟨_, rfl⟩
      obtain ⟨f2, hf2⟩ : ∃ q, x.last = q := ⟨_, rfl⟩
      obtain ⟨f3, hf3⟩ : ∃ q, x.over = q := ⟨_, rfl⟩
      have k0 : Y.cell? ⟨e, 0, none⟩ = some (.int .i64 x.kind) := blk_cell y5 rfl
      have k1 : Y.cell? ⟨e, 1, none⟩ = some (.bool x.first) := blk_cell y5 rfl
      have k2 : Y.cell? ⟨e, 2, none⟩ = some (.bool x.last) := blk_cell y5 rfl
      have k3 : Y.cell? ⟨e, 3, none⟩ = some (.bool x.over) := blk_cell y5 rfl
      have k4 : Y.cell? ⟨e, 4, none⟩ = some x.pv := blk_cell y5 rfl
      rw [hpv] at k4
      rw [hf1] at k1
      rw [hf2] at k2
      rw [hf3] at k3
      have HE2 := Lib.hid (And.intro hx (And.intro hn1 (And.intro hownY (And.intro hbY y5))))
      have HBY := Lib.hid (HY.out.1.trans (hbY.mono (by omega)))
      have HF := Lib.hid (And.intro hf1 (And.intro hf2 hf3))
      clear hx hn1 hownY hbY y5 hf1 hf2 hf3 hYY he hkw
      by_cases o1 : 1 ≤ x.kind
      case neg =>
        have hno : ¬ GoodP num l := fun h => o1 (h.1.2.1 _ (List.mem_of_getElem? HE2.out.1)).1
        have HN := Lib.hid hno
        have z : x.kind < 1 := by omega
        clear hno
        go_wp2_with fail
        go_ret2
        exact RP.no HN.out HBY.out
      by_cases o2 : x.kind ≤ 3
      case neg =>
        have hno : ¬ GoodP num l := fun h => o2 (h.1.2.1 _ (List.mem_of_getElem? HE2.out.1)).2.1
        have HN := Lib.hid hno
        clear hno
        go_wp2_with fail
        go_ret2
        exact RP.no HN.out HBY.out
      by_cases o3 : n1 ≤ 200
      case neg =>
        have hno : ¬ GoodP num l := fun h => o3 (by have := (h.1.2.1 _ (List.mem_of_getElem? HE2.out.1)).2.2; simp only [HE2.out.2.1] at this; exact this)
        have HN := Lib.hid hno
        have z : (200 : Int) < n1 := by omega
        clear hno
        go_wp2_with fail
        go_ret2
        exact RP.no HN.out HBY.out
      have z1 : ¬ x.kind < 1 := by omega
      have z2 : ¬ 3 < x.kind := by omega
      have z3 : ¬ (200 : Int) < n1 := by omega
      obtain ⟨K0, hK0⟩ : ∃ K0 : Nat, x.kind = K0 := ⟨x.kind.toNat, by omega⟩
      obtain ⟨K1, hK1⟩ : ∃ q : Nat, K0 + (if f1 then 4 else 0) = q := ⟨_, rfl⟩
      obtain ⟨K2, hK2⟩ : ∃ q : Nat, K1 + (if f2 then 8 else 0) = q := ⟨_, rfl⟩
      obtain ⟨K3, hK3⟩ : ∃ q : Nat, K2 + (if f3 then 16 else 0) = q := ⟨_, rfl⟩
      have t1 : K0 ≤ 3 := by omega
      have t2 : K1 < 8 := by rw [← hK1]; split <;> omega
      have t3 : K2 < 16 := by rw [← hK2]; split <;> omega
      have t4 : K3 < 32 := by rw [← hK3]; split <;> omega
      have hmk : (K3 : Int) = mkB x := by
        unfold mkB
        rw [addB_all, hK0, HF.out.1, HF.out.2.1, HF.out.2.2, ← hK3, ← hK2, ← hK1]
        cases f1 <;> cases f2 <;> cases f3 <;> simp <;> omega
      have HM := Lib.hid hmk
      have HK := Lib.hid (And.intro hK1 (And.intro hK2 hK3))
      have HOK := Lib.hid (And.intro o1 (And.intro o2 o3))
      rw [hK0] at k0 z1 z2
      clear hK1 hK2 hK3 hmk hK0 o1 o2
      go_upto_if 61 with (fail)
      go_cut [7] from 62 to 63 (fun s7 wz => s7 = .int .i64 (K1 : Int) ∧ wz = Y)
      case first =>
        cases f1
        · go_wp2_with fail
          go_meet
          exact ⟨by rw [← HK.out.1]; rfl, rfl⟩
        · go_wp2_with fail
          go_meet
          exact ⟨by rw [← HK.out.1]; simp, rfl⟩
      case rest =>
        obtain ⟨rfl, hwz⟩ := hcut
        have hwz' := hwz.symm
        subst hwz'
        clear k0 k1 z1 z2
        go_upto_if 65 with (fail)
        go_cut [7] from 66 to 67 (fun s7 wz => s7 = .int .i64 (K2 : Int) ∧ wz = Y)
        case first =>
          cases f2
          · go_wp2_with fail
            go_meet
            exact ⟨by rw [← HK.out.2.1]; rfl, rfl⟩
          · go_wp2_with fail
            go_meet
            exact ⟨by rw [← HK.out.2.1]; simp, rfl⟩
        case rest =>
          obtain ⟨rfl, hwz⟩ := hcut
          have hwz' := hwz.symm
          subst hwz'
          clear k2
          go_upto_if 69 with (fail)
          go_cut [7] from 70 to 71 (fun s7 wz => s7 = .int .i64 (K3 : Int) ∧ wz = Y)
          case first =>
            cases f3
            · go_wp2_with fail
              go_meet
              exact ⟨by rw [← HK.out.2.2]; rfl, rfl⟩
            · go_wp2_with fail
              go_meet
              exact ⟨by rw [← HK.out.2.2]; simp, rfl⟩
          case rest =>
            obtain ⟨rfl, hwz⟩ := hcut
            have hwz' := hwz.symm
            subst hwz'
            clear k3 HK
            obtain ⟨hx, hn1, hownY, hbY, y5⟩ := HE2.out
            have gn : IntKind.u8.wrap (n1 : Int) = n1 := by rw [IntKind.wrap_u8]; omega
            have gK : IntKind.u8.wrap (K3 : Int) = K3 := by rw [IntKind.wrap_u8]; omega
            have hoc : (bvs [YtiffcdeagckgmaaDoor.u8 (mkB x), YtiffcdeagckgmaaDoor.u8 (n1 : Int)]).toArray = #[Value.int .u8 (K3 : Int), .int .u8 (n1 : Int)] := by
              simp only [bvs, List.map_cons, List.map_nil, bv_u8]
              rw [← HM.out, Int.emod_eq_of_lt (by omega) (by omega), Int.emod_eq_of_lt (by omega) (by omega)]
            have hx77 : Sl (Y.alloc (.cells #[Value.int .u8 (K3 : Int), .int .u8 (n1 : Int)] 5)) (Y.alloc (.cells #[Value.int .u8 (K3 : Int), .int .u8 (n1 : Int)] 5)).heap.size 1 (some ⟨Y.heap.size, 0, none⟩) 2 (bvs [YtiffcdeagckgmaaDoor.u8 (mkB x), YtiffcdeagckgmaaDoor.u8 (n1 : Int)]) := by
              rw [← hoc]
              exact Sl.new (sz := 1) (n := 2) (heap_alloc_new Y _) rfl
            have hYV : V.heap.size ≤ Y.heap.size := hbY.size
            have hbs : V.heap.size ≤ (Y.alloc (.cells #[Value.int .u8 (K3 : Int), .int .u8 (n1 : Int)] 5)).heap.size := by simp; omega
            have hownY2 := hownY.alloc (.cells #[Value.int .u8 (K3 : Int), .int .u8 (n1 : Int)] 5)
            have hmm : m ≤ 2000000 := by omega
            clear hoc hx hn1 hownY hbY y5
            go_upto_region 17 with (fail)
            go_wp2_with (first
              | (refine wpList_app _ rfl (.tmp 72) (.tmp 79) 25 rfl (base := V.heap.size) Tryd.underlying25 elemC rfl hownY2 rfl hx77 (oneCell_bvs _) (by simp only [maxLen]; omega) (by omega) hbs ?_)
              | fail)
            intro A78 c78 w78 hown78 hg78 hb78 hat78
            obtain ⟨hx, hn1, hownY, hbY, y5⟩ := HE2.out
            have hbA : Below Y.heap.size Y (Y.alloc (.cells #[Value.int .u8 (K3 : Int), .int .u8 (n1 : Int)] 5)) := (Below.refl _ _).alloc (Nat.le_refl _) _
            have hg78' : World.grownBy (Y.alloc (.cells #[Value.int .u8 (K3 : Int), .int .u8 (n1 : Int)] 5)) w78 (Value.slice A5 m c5).ownBlock := hg78
            have hne : (Value.slice A5 m c5).ownBlock ≠ some e := own_ne hownY y5 (by decide)
            have hbe : w78.heap[e]? = some (.cells x.cells.toArray 45) := (hg78'.block e (by have := hbA.size; omega) (fun h => hne h.symm)).trans (bBlk hbA heY y5)
            have hB78 : Below V.heap.size V w78 := (hbY.trans (hbA.mono hYV)).trans hb78
            have HO := Lib.hid (And.intro hown78 (And.intro hB78 hbe))
            have HX := Lib.hid (And.intro hx (And.intro hn1 hpv))
            clear hx hn1 hpv hownY hbY y5 hown78 hg78 hg78' hb78 hat78 hbA hne hbe hB78 hx77 hownY2 hbs gn gK k4 hYV HE2 heY
            (try simp only [Act.put, List.setIfInBounds_toArray, List.set_cons_zero, List.set_cons_succ])
            go_wp2_with fail
            go_loopw [4, 8] (fun s5 s9 wi => ∃ (j m2 : Nat) (A6 : Option Addr) (c6 : Nat), j ≤ n1 ∧ m2 ≤ m + 2 + j * 258 ∧ s9 = .int .i64 j ∧ s5 = .slice A6 m2 c6 ∧ wi.heap[e]? = some (.cells x.cells.toArray 45) ∧ Hid (m2 = m + 2 + ((px.take j).flatMap pieceB).length ∧ wi.ownsRow V.heap.size 5 1 (.slice A6 m2 c6) m2 (bvs ([YtiffcdeagckgmaaDoor.u8 num, YtiffcdeagckgmaaDoor.u8 (n : Int)] ++ (l.take i).flatMap lineB ++ ([YtiffcdeagckgmaaDoor.u8 (mkB x), YtiffcdeagckgmaaDoor.u8 (n1 : Int)] ++ (px.take j).flatMap pieceB))) ∧ (∀ (k : Nat) (p : PC), k < j → px[k]? = some p → pcOk p)) ∧ Below V.heap.size V wi) (fun _ q _ => n1 - (intOf q).toNat)
            case atStart => exact ⟨0, m + 2, _, _, by omega, by omega, rfl, rfl, HO.out.2.2, Lib.hid ⟨by simp, by have := HO.out.1; rw [← bvs_append] at this; simpa using this, fun k p h => by omega⟩, HO.out.2.1⟩
            case round =>
              clear HO j1
              obtain ⟨j, m2, A6, c6, hj, hm2, rfl, rfl, hE, HI2, hbj⟩ := hrel
              have k4 : wr.cell? ⟨e, 4, none⟩ = some x.pv := blk_cell hE rfl
              rw [HX.out.2.2] at k4
              have heR := (Array.getElem?_eq_some_iff.1 hE).1
              by_cases hlj : j < n1
              · obtain ⟨p, hp⟩ : ∃ p, px[j]? = some p := ⟨_, List.getElem?_eq_getElem (by rw [HX.out.2.1]; exact hlj)⟩
                have g5 : (j : Int) < n1 := by omega
                have hzj := hbj.size
                have hpcr : PcAt wr V.heap.size A1 n1 c1 px := by
                  obtain ⟨_, _, A3, n3, c3, -, -, -, e1, e2⟩ := (HY.out.2.2.1.below hbj).entry HX.out.1
                  simp only at e1 e2
                  rw [HX.out.2.2] at e1
                  cases e1
                  exact e2
                have hpw := hpcr.wide p (List.mem_of_getElem? hp)
                obtain ⟨pb, po, rfl, hpB, hprow⟩ := hpcr.entry hp
                have ix := pc_info2 p
                have jx : (Tryd.prog.info? 47).map (·.size) = some p.cells.toArray.size := pc_size
                have ox := one_pc p
                obtain ⟨Z, hZZ, z5, bZ⟩ := newRow wr #[.int .i64 0, .string ⟨#[]⟩] p.cells.toArray 47
                have hownZ := own_below HI2.out.2.1 bZ
                have hbZ := hbj.trans (bZ.mono hzj)
                have hEZ := bBlk bZ heR hE
                have z0 : Z.cell? ⟨wr.heap.size, 0, none⟩ = some (.int .i64 p.x) := blk_cell z5 rfl
                have z1 : Z.cell? ⟨wr.heap.size, 1, none⟩ = some (.string p.s) := blk_cell z5 rfl
                have HZ := Lib.hid (And.intro hp (And.intro hownZ (And.intro hbZ (And.intro z5 hEZ))))
                clear hp hownZ hbZ hpcr hE z5 hEZ
                go_upto_region 22 with (first
                  | (refine wpList_load_mid rfl 47 (.tmp 91) rfl pb (po + j * 2) rfl p.cells _ hprow Tryd.underlying47 rfl ix ?_)
                  | (refine wpList_new rfl pcZ' rfl ?_)
                  | (refine wpList_store_row rfl 47 (.tmp 9) (.tmp 92) rfl _ p.cells.toArray rfl rfl _ _ (heap_alloc_new _ _) jx rfl ox ?_)
                  | fail)
                (try simp only [Act.put, List.setIfInBounds_toArray, List.set_cons_zero, List.set_cons_succ])
                try rw [hZZ]
                clear hZZ hprow
                have HBZ := Lib.hid (HY.out.1.trans (HZ.out.2.2.1.mono (by omega)))
                have hmem : p ∈ flatP l := by
                  obtain ⟨t, ht⟩ := flatP_pre HX.out.1
                  rw [ht]
                  exact List.mem_append.2 (.inl (List.mem_append.2 (.inr (List.mem_of_getElem? HZ.out.1))))
                have hnop : ¬ pcOk p → ¬ GoodP num l := fun h g => h (g.1.2.2 p hmem)
                have HNP := Lib.hid hnop
                clear hmem hnop
                by_cases q1 : 0 ≤ p.x
                case neg =>
                  have HN := Lib.hid (HNP.out (fun h => q1 h.1))
                  have z : p.x < 0 := by omega
                  go_wp2_with fail
                  go_ret2
                  exact RP.no HN.out HBZ.out
                by_cases q2 : p.x ≤ 65535
                case neg =>
                  have HN := Lib.hid (HNP.out (fun h => q2 h.2.1))
                  have z : 65535 < p.x := by omega
                  go_wp2_with fail
                  go_ret2
                  exact RP.no HN.out HBZ.out
                by_cases q3 : 1 ≤ p.s.size
                case neg =>
                  have HN := Lib.hid (HNP.out (fun h => q3 h.2.2.1))
                  have z : (p.s.size : Int) < 1 := by omega
                  go_wp2_with fail
                  go_ret2
                  exact RP.no HN.out HBZ.out
                by_cases q4 : p.s.size ≤ 255
                case neg =>
                  have HN := Lib.hid (HNP.out (fun h => q4 h.2.2.2.1))
                  have z : (255 : Int) < p.s.size := by omega
                  go_wp2_with fail
                  go_ret2
                  exact RP.no HN.out HBZ.out
                have x1 : ¬ p.x < 0 := by omega
                have x2 : ¬ 65535 < p.x := by omega
                have x3 : ¬ (p.s.size : Int) < 1 := by omega
                have x4 : ¬ (255 : Int) < p.s.size := by omega
                go_wp2_with fail
                refine Calls.mono (signs_any p.s q4 Z) ?_
                rintro e9 Z2 ⟨A9, n9, c9, rfl, b9⟩
                obtain ⟨vd, hvd⟩ : ∃ q, Lib.validD p.s.data.toList = q := ⟨_, rfl⟩
                rw [hvd]
                have hfd := fun W => fld_read A9 n9 c9 vd W
                have HVD := Lib.hid hvd
                have HB9 := Lib.hid (bNext HBZ.out b9)
                clear hvd
                cases vd
                · have HN := Lib.hid (HNP.out (fun h => by have h9 := h.2.2.2.2; rw [HVD.out] at h9; cases h9))
                  clear b9 z0 z1
                  go_wp2_with fail
                  go_ret2
                  exact RP.no HN.out HB9.out
                · have hok : pcOk p := ⟨q1, q2, q3, q4, HVD.out⟩
                  obtain ⟨hp, hownZ, hbZ, z5, hEZ⟩ := HZ.out
                  obtain ⟨pz, hpz⟩ : ∃ q, wr.heap.size = q := ⟨_, rfl⟩
                  rw [hpz] at z5 ⊢
                  have hlZ := (Array.getElem?_eq_some_iff.1 z5).1
                  have p5 := bBlk b9 hlZ z5
                  have e5 := bBlk b9 (Array.getElem?_eq_some_iff.1 hEZ).1 hEZ
                  have own9 := own_below hownZ b9
                  have hbV9 := bNext hbZ b9
                  have d0 : Z2.cell? ⟨pz, 0, none⟩ = some (.int .i64 p.x) := blk_cell p5 rfl
                  have d1 : Z2.cell? ⟨pz, 1, none⟩ = some (.string p.s) := blk_cell p5 rfl
                  have hpl := (Array.getElem?_eq_some_iff.1 p5).1
                  have hel := (Array.getElem?_eq_some_iff.1 e5).1
                  have hm9' : m2 ≤ 2000000 := by omega
                  have hbz9 : V.heap.size ≤ Z2.heap.size := hbV9.size
                  let S : World → Prop := fun w' => w'.cell? ⟨pz, 0, none⟩ = some (.int .i64 p.x) ∧ w'.cell? ⟨pz, 1, none⟩ = some (.string p.s)
                  have hS0 : S Z2.drew := ⟨d0, d1⟩
                  have HZ2 := Lib.hid (And.intro hp (And.intro hbV9 (And.intro p5 (And.intro e5 hok))))
                  clear hp hownZ hbZ z5 hEZ b9 z0 z1 x1 x2 x3 x4 hpz hlZ hok hbV9 d0 d1
                  go_upto_region 24 with (fail)
                  have gx1 : IntKind.u8.wrap (p.x / 256) = p.x / 256 := by rw [IntKind.wrap_u8]; omega
                  have gx2 : IntKind.u8.wrap p.x = p.x % 256 := by rw [IntKind.wrap_u8]
                  have gx3 : IntKind.u8.wrap (p.s.size : Int) = p.s.size := by rw [IntKind.wrap_u8]; omega
                  have hoc3 : (bvs [YtiffcdeagckgmaaDoor.u8 (p.x / 256), YtiffcdeagckgmaaDoor.u8 p.x, YtiffcdeagckgmaaDoor.u8 (p.s.size : Int)]).toArray = #[Value.int .u8 (p.x / 256), .int .u8 (p.x % 256), .int .u8 (p.s.size : Int)] := by
                    simp only [bvs, List.map_cons, List.map_nil, bv_u8]
                    rw [Int.emod_eq_of_lt (a := p.x / 256) (by omega) (by omega), Int.emod_eq_of_lt (a := (p.s.size : Int)) (by omega) (by omega)]
                  have hx55 : Sl (Z2.drew.alloc (.cells #[Value.int .u8 (p.x / 256), .int .u8 (p.x % 256), .int .u8 (p.s.size : Int)] 5)) (Z2.drew.alloc (.cells #[Value.int .u8 (p.x / 256), .int .u8 (p.x % 256), .int .u8 (p.s.size : Int)] 5)).heap.size 1 (some ⟨Z2.heap.size, 0, none⟩) 3 (bvs [YtiffcdeagckgmaaDoor.u8 (p.x / 256), YtiffcdeagckgmaaDoor.u8 p.x, YtiffcdeagckgmaaDoor.u8 (p.s.size : Int)]) := by
                    rw [← hoc3]
                    exact Sl.new (sz := 1) (n := 3) (heap_alloc_new Z2.drew _) rfl
                  have hbA : Below Z2.heap.size Z2 (Z2.drew.alloc (.cells #[Value.int .u8 (p.x / 256), .int .u8 (p.x % 256), .int .u8 (p.s.size : Int)] 5)) := (Below.refl _ _).drew.alloc (Nat.le_refl _) _
                  have hS12 : S (Z2.drew.alloc (.cells #[Value.int .u8 (p.x / 256), .int .u8 (p.x % 256), .int .u8 (p.s.size : Int)] 5)) := ⟨(hbA.cell (p := ⟨pz, 0, none⟩) hpl).trans hS0.1, (hbA.cell (p := ⟨pz, 1, none⟩) hpl).trans hS0.2⟩
                  have ownA := own_below own9 hbA
                  have hbsA : V.heap.size ≤ (Z2.drew.alloc (.cells #[Value.int .u8 (p.x / 256), .int .u8 (p.x % 256), .int .u8 (p.s.size : Int)] 5)).heap.size := by have := hbA.size; omega
                  clear hoc3
                  refine wp_region_held (S := S) (by kernel_rfl) ?_
                  change wpAnyH _ _ _ _ S _ _ _ Z2.drew
                  refine wpAnyH_take (i := 0) (oi := ?oi_1) (v := ?v_1) ?ho_1 ?h1_1 ?h2_1 ?h3_1 ?hq_1 (Or.inl ⟨?hw_1, ?hy_1⟩) ?hs_1 ?rest_1; (case h2_1 => kernel_rfl); (case h3_1 => kernel_rfl); (case ho_1 => (simp only [List.getElem?_toArray, List.getElem?_cons_zero, List.getElem?_cons_succ]; rfl)); (case h1_1 => kernel_rfl); (case hq_1 => exact fun _ _ _ h => h); (case hw_1 => rfl); (case hy_1 => (intro w' hSw; (try simp only [S] at hSw); go_simp; (try with_reducible rfl))); (case hs_1 => assumption); (try simp only [Act.put, List.setIfInBounds_toArray, List.set_cons_zero, List.set_cons_succ])
                  refine wpAnyH_take (i := 1) (oi := ?oi_2) (v := ?v_2) ?ho_2 ?h1_2 ?h2_2 ?h3_2 ?hq_2 (Or.inl ⟨?hw_2, ?hy_2⟩) ?hs_2 ?rest_2; (case h2_2 => kernel_rfl); (case h3_2 => kernel_rfl); (case ho_2 => (simp only [List.getElem?_toArray, List.getElem?_cons_zero, List.getElem?_cons_succ]; rfl)); (case h1_2 => kernel_rfl); (case hq_2 => exact fun _ _ _ h => h); (case hw_2 => rfl); (case hy_2 => (intro w' hSw; (try simp only [S] at hSw); go_simp; (try with_reducible rfl))); (case hs_2 => assumption); (try simp only [Act.put, List.setIfInBounds_toArray, List.set_cons_zero, List.set_cons_succ])
                  refine wpAnyH_take (i := 2) (oi := ?oi_3) (v := ?v_3) ?ho_3 ?h1_3 ?h2_3 ?h3_3 ?hq_3 (Or.inl ⟨?hw_3, ?hy_3⟩) ?hs_3 ?rest_3; (case h2_3 => kernel_rfl); (case h3_3 => kernel_rfl); (case ho_3 => (simp only [List.getElem?_toArray, List.getElem?_cons_zero, List.getElem?_cons_succ]; rfl)); (case h1_3 => kernel_rfl); (case hq_3 => exact fun _ _ _ h => h); (case hw_3 => rfl); (case hy_3 => (intro w' hSw; (try simp only [S] at hSw); go_simp; (try with_reducible rfl))); (case hs_3 => assumption); (try simp only [Act.put, List.setIfInBounds_toArray, List.set_cons_zero, List.set_cons_succ])
                  refine wpAnyH_take (i := 3) (oi := ?oi_4) (v := ?v_4) ?ho_4 ?h1_4 ?h2_4 ?h3_4 ?hq_4 (Or.inl ⟨?hw_4, ?hy_4⟩) ?hs_4 ?rest_4; (case h2_4 => kernel_rfl); (case h3_4 => kernel_rfl); (case ho_4 => (simp only [List.getElem?_toArray, List.getElem?_cons_zero, List.getElem?_cons_succ]; rfl)); (case h1_4 => kernel_rfl); (case hq_4 => exact fun _ _ _ h => h); (case hw_4 => rfl); (case hy_4 => (intro w' hSw; (try simp only [S] at hSw); go_simp; (try with_reducible rfl))); (case hs_4 => assumption); (try simp only [Act.put, List.setIfInBounds_toArray, List.set_cons_zero, List.set_cons_succ])
                  refine wpAnyH_take (i := 4) (oi := ?oi_5) (v := ?v_5) ?ho_5 ?h1_5 ?h2_5 ?h3_5 ?hq_5 (Or.inl ⟨?hw_5, ?hy_5⟩) ?hs_5 ?rest_5; (case h2_5 => kernel_rfl); (case h3_5 => kernel_rfl); (case ho_5 => (simp only [List.getElem?_toArray, List.getElem?_cons_zero, List.getElem?_cons_succ]; rfl)); (case h1_5 => kernel_rfl); (case hq_5 => exact fun _ _ _ h => h); (case hw_5 => rfl); (case hy_5 => (intro w' hSw; (try simp only [S] at hSw); go_simp; (try with_reducible rfl))); (case hs_5 => assumption); (try simp only [Act.put, List.setIfInBounds_toArray, List.set_cons_zero, List.set_cons_succ])
                  refine wpAnyH_take (i := 5) (oi := ?oi_6) (v := ?v_6) ?ho_6 ?h1_6 ?h2_6 ?h3_6 ?hq_6 (Or.inl ⟨?hw_6, ?hy_6⟩) ?hs_6 ?rest_6; (case h2_6 => kernel_rfl); (case h3_6 => kernel_rfl); (case ho_6 => (simp only [List.getElem?_toArray, List.getElem?_cons_zero, List.getElem?_cons_succ]; rfl)); (case h1_6 => kernel_rfl); (case hq_6 => exact fun _ _ _ h => h); (case hw_6 => rfl); (case hy_6 => (intro w' hSw; (try simp only [S] at hSw); go_simp; (try with_reducible rfl))); (case hs_6 => assumption); (try simp only [Act.put, List.setIfInBounds_toArray, List.set_cons_zero, List.set_cons_succ])
                  refine wpAnyH_take (i := 6) (oi := ?oi_7) (v := ?v_7) ?ho_7 ?h1_7 ?h2_7 ?h3_7 ?hq_7 (Or.inl ⟨?hw_7, ?hy_7⟩) ?hs_7 ?rest_7; (case h2_7 => kernel_rfl); (case h3_7 => kernel_rfl); (case ho_7 => (simp only [List.getElem?_toArray, List.getElem?_cons_zero, List.getElem?_cons_succ]; rfl)); (case h1_7 => kernel_rfl); (case hq_7 => exact fun _ _ _ h => h); (case hw_7 => rfl); (case hy_7 => (intro w' hSw; (try simp only [S] at hSw); go_simp; (try with_reducible rfl))); (case hs_7 => assumption); (try simp only [Act.put, List.setIfInBounds_toArray, List.set_cons_zero, List.set_cons_succ])
                  refine wpAnyH_take (i := 7) (oi := ?oi_8) (v := ?v_8) ?ho_8 ?h1_8 ?h2_8 ?h3_8 ?hq_8 (Or.inl ⟨?hw_8, ?hy_8⟩) ?hs_8 ?rest_8; (case h2_8 => kernel_rfl); (case h3_8 => kernel_rfl); (case ho_8 => (simp only [List.getElem?_toArray, List.getElem?_cons_zero, List.getElem?_cons_succ]; rfl)); (case h1_8 => kernel_rfl); (case hq_8 => exact fun _ _ _ h => h); (case hw_8 => rfl); (case hy_8 => (intro w' hSw; (try simp only [S] at hSw); go_simp; (try with_reducible rfl))); (case hs_8 => assumption); (try simp only [Act.put, List.setIfInBounds_toArray, List.set_cons_zero, List.set_cons_succ])
                  refine wpAnyH_take (i := 8) (oi := ?oi_9) (v := ?v_9) ?ho_9 ?h1_9 ?h2_9 ?h3_9 ?hq_9 (Or.inl ⟨?hw_9, ?hy_9⟩) ?hs_9 ?rest_9; (case h2_9 => kernel_rfl); (case h3_9 => kernel_rfl); (case ho_9 => (simp only [List.getElem?_toArray, List.getElem?_cons_zero, List.getElem?_cons_succ]; rfl)); (case h1_9 => kernel_rfl); (case hq_9 => exact fun _ _ _ h => h); (case hw_9 => rfl); (case hy_9 => (intro w' hSw; (try simp only [S] at hSw); go_simp; (try with_reducible rfl))); (case hs_9 => assumption); (try simp only [Act.put, List.setIfInBounds_toArray, List.set_cons_zero, List.set_cons_succ])
                  refine wpAnyH_take (i := 9) (oi := ?oi_10) (v := ?v_10) ?ho_10 ?h1_10 ?h2_10 ?h3_10 ?hq_10 (Or.inl ⟨?hw_10, ?hy_10⟩) ?hs_10 ?rest_10; (case h2_10 => kernel_rfl); (case h3_10 => kernel_rfl); (case ho_10 => (simp only [List.getElem?_toArray, List.getElem?_cons_zero, List.getElem?_cons_succ]; rfl)); (case h1_10 => kernel_rfl); (case hq_10 => exact fun _ _ _ h => h); (case hw_10 => rfl); (case hy_10 => (intro w' hSw; (try simp only [S] at hSw); go_simp; (try with_reducible rfl))); (case hs_10 => assumption); (try simp only [Act.put, List.setIfInBounds_toArray, List.set_cons_zero, List.set_cons_succ])
                  refine wpAnyH_take (i := 10) (oi := ?oi_11) (v := ?v_11) ?ho_11 ?h1_11 ?h2_11 ?h3_11 ?hq_11 (Or.inl ⟨?hw_11, ?hy_11⟩) ?hs_11 ?rest_11; (case h2_11 => kernel_rfl); (case h3_11 => kernel_rfl); (case ho_11 => (simp only [List.getElem?_toArray, List.getElem?_cons_zero, List.getElem?_cons_succ]; rfl)); (case h1_11 => kernel_rfl); (case hq_11 => exact fun _ _ _ h => h); (case hw_11 => rfl); (case hy_11 => (intro w' hSw; (try simp only [S] at hSw); go_simp; (try with_reducible rfl))); (case hs_11 => assumption); (try simp only [Act.put, List.setIfInBounds_toArray, List.set_cons_zero, List.set_cons_succ])
                  refine wpAnyH_take (i := 11) (oi := ?oi_12) (v := ?v_12) ?ho_12 ?h1_12 ?h2_12 ?h3_12 ?hq_12 (Or.inl ⟨?hw_12, ?hy_12⟩) ?hs_12 ?rest_12; (case h2_12 => kernel_rfl); (case h3_12 => kernel_rfl); (case ho_12 => (simp only [List.getElem?_toArray, List.getElem?_cons_zero, List.getElem?_cons_succ]; rfl)); (case h1_12 => kernel_rfl); (case hq_12 => exact fun _ _ _ h => h); (case hw_12 => rfl); (case hy_12 => (intro w' hSw; (try simp only [S] at hSw); go_simp; (try with_reducible rfl))); (case hs_12 => assumption); (try simp only [Act.put, List.setIfInBounds_toArray, List.set_cons_zero, List.set_cons_succ])
                  refine wpAnyH_take (i := 14) (oi := ?oi_13) (v := ?v_13) ?ho_13 ?h1_13 ?h2_13 ?h3_13 ?hq_13 (Or.inl ⟨?hw_13, ?hy_13⟩) ?hs_13 ?rest_13; (case h2_13 => kernel_rfl); (case h3_13 => kernel_rfl); (case ho_13 => (simp only [List.getElem?_toArray, List.getElem?_cons_zero, List.getElem?_cons_succ]; rfl)); (case h1_13 => kernel_rfl); (case hq_13 => exact fun _ _ _ h => h); (case hw_13 => rfl); (case hy_13 => (intro w' hSw; (try simp only [S] at hSw); go_simp; (try with_reducible rfl))); (case hs_13 => assumption); (try simp only [Act.put, List.setIfInBounds_toArray, List.set_cons_zero, List.set_cons_succ])
                  refine wpAnyH_take (i := 15) (oi := ?oi_14) (v := ?v_14) ?ho_14 ?h1_14 ?h2_14 ?h3_14 ?hq_14 (Or.inl ⟨?hw_14, ?hy_14⟩) ?hs_14 ?rest_14; (case h2_14 => kernel_rfl); (case h3_14 => kernel_rfl); (case ho_14 => (simp only [List.getElem?_toArray, List.getElem?_cons_zero, List.getElem?_cons_succ]; rfl)); (case h1_14 => kernel_rfl); (case hq_14 => exact fun _ _ _ h => h); (case hw_14 => rfl); (case hy_14 => (intro w' hSw; (try simp only [S] at hSw); go_simp; (try with_reducible rfl))); (case hs_14 => assumption); (try simp only [Act.put, List.setIfInBounds_toArray, List.set_cons_zero, List.set_cons_succ])
                  refine wpAnyH_ready (rs := [12]) (by kernel_rfl) (by simp) (AllReadyH.cons (o := ?oo12_16) ?hoo12_16 (fun K hK => ?steponly16) AllReadyH.nil); (case hoo12_16 => (simp only [List.getElem?_toArray, List.getElem?_cons_zero, List.getElem?_cons_succ]; rfl))
                  go_simp
                  refine hK.out _ _ hS12 (fun _ => ?_)
                  clear hK K
                  (try simp only [Act.put, List.setIfInBounds_toArray, List.set_cons_zero, List.set_cons_succ])
                  clear gx1 gx2 gx3
                  refine wpAnyH_ready (rs := [13]) (by kernel_rfl) (by simp) (AllReadyH.cons (o := ?oo13_17) ?hoo13_17 (fun K hK => ?steponly17) AllReadyH.nil); (case hoo13_17 => (simp only [List.getElem?_toArray, List.getElem?_cons_zero, List.getElem?_cons_succ]; rfl))
                  refine step_app _ rfl (.tmp 120) (.tmp 132) 25 rfl (base := V.heap.size) Tryd.underlying25 elemC rfl ownA rfl hx55 (oneCell_bvs _) (by simp only [maxLen]; omega) (by omega) hbsA ?_
                  intro A56 c56 w56 hown56 hg56 hb56 hat56
                  have hg56' : World.grownBy (Z2.drew.alloc (.cells #[Value.int .u8 (p.x / 256), .int .u8 (p.x % 256), .int .u8 (p.s.size : Int)] 5)) w56 (Value.slice A6 m2 c6).ownBlock := hg56
                  have hp56 : w56.heap[pz]? = some (.cells p.cells.toArray 47) := (hg56'.block pz (by have := hbA.size; omega) (fun h => own_ne own9 HZ2.out.2.2.1 (by decide) h.symm)).trans (bBlk hbA hpl HZ2.out.2.2.1)
                  have he56 : w56.heap[e]? = some (.cells x.cells.toArray 45) := (hg56'.block e (by have := hbA.size; omega) (fun h => own_ne own9 HZ2.out.2.2.2.1 (by decide) h.symm)).trans (bBlk hbA hel HZ2.out.2.2.2.1)
                  have hS13 : S w56 := ⟨blk_cell hp56 rfl, blk_cell hp56 rfl⟩
                  have hB56 : Below V.heap.size V w56 := (HZ2.out.2.1.trans (hbA.mono hbz9)).trans hb56
                  have hbase : V.heap.size ≤ w56.heap.size := hB56.size
                  refine hK.out _ _ hS13 (fun _ => ?_)
                  clear hK K
                  (try simp only [Act.put, List.setIfInBounds_toArray, List.set_cons_zero, List.set_cons_succ])
                  have HW56 := Lib.hid (And.intro hB56 (And.intro he56 hp56))
                  clear hB56 hg56 hg56' hb56 hat56 hx55 ownA hbA
                  refine wpAnyH_ready (rs := [16]) (by kernel_rfl) (by simp) (AllReadyH.cons (o := ?oo16_18) ?hoo16_18 (fun K hK => ?steponly18) AllReadyH.nil); (case hoo16_18 => (simp only [List.getElem?_toArray, List.getElem?_cons_zero, List.getElem?_cons_succ]; rfl))
                  refine step_app_str rfl (.tmp 133) (.tmp 135) 25 9 rfl V.heap.size 5 _ Tryd.underlying25 Tryd.underlying9 rfl rfl rfl rfl _ (m2 + 3) _ rfl hown56 p.s rfl (by simp only [maxLen]; omega) (by omega) hbase ?_
                  intro v' w60 hown60 hg60
                  obtain ⟨A60, c60, rfl, -⟩ := own_form hown60
                  have hB60 : Below V.heap.size V w60 := by
                    have hx := HW56.out.1
                    exact ⟨hg60.os.trans hx.os, hg60.tape.trans hx.tape, hg60.output.trans hx.output, Nat.le_trans hx.size hg60.size, fun k hk => (hg60.block k (by omega) (fun e2 => by have := (hown56.lt _ e2.symm).1; omega)).trans (hx.block k hk)⟩
                  have he60 : w60.heap[e]? = some (.cells x.cells.toArray 45) := (hg60.block e (Array.getElem?_eq_some_iff.1 HW56.out.2.1).1 (fun h => own_ne hown56 HW56.out.2.1 (by decide) h.symm)).trans HW56.out.2.1
                  have hp60 : w60.heap[pz]? = some (.cells p.cells.toArray 47) := (hg60.block pz (Array.getElem?_eq_some_iff.1 HW56.out.2.2).1 (fun h => own_ne hown56 HW56.out.2.2 (by decide) h.symm)).trans HW56.out.2.2
                  have hS16 : S w60 := ⟨blk_cell hp60 rfl, blk_cell hp60 rfl⟩
                  refine hK.out _ _ hS16 (fun _ => ?_)
                  clear hK K
                  (try simp only [Act.put, List.setIfInBounds_toArray, List.set_cons_zero, List.set_cons_succ])
                  refine wpAnyH_take (i := 17) (oi := ?oi_15) (v := ?v_15) ?ho_15 ?h1_15 ?h2_15 ?h3_15 ?hq_15 (Or.inl ⟨?hw_15, ?hy_15⟩) ?hs_15 ?rest_15; (case h2_15 => kernel_rfl); (case h3_15 => kernel_rfl); (case ho_15 => (simp only [List.getElem?_toArray, List.getElem?_cons_zero, List.getElem?_cons_succ]; rfl)); (case h1_15 => kernel_rfl); (case hq_15 => exact fun _ _ _ h => h); (case hw_15 => rfl); (case hy_15 => (intro w' hSw; (try simp only [S] at hSw); go_simp; (try with_reducible rfl))); (case hs_15 => assumption); (try simp only [Act.put, List.setIfInBounds_toArray, List.set_cons_zero, List.set_cons_succ])
                  refine wpAnyH_done (by kernel_rfl) ?_ _
                  have e3 : (pieceB p).length = 3 + p.s.size := by
                    have : p.s.data.toList.length = p.s.size := rfl
                    simp only [pieceB, List.length_append, List.length_cons, List.length_nil, this]
                  have hlen : m2 + 3 + p.s.size = m + 2 + ((px.take (j + 1)).flatMap pieceB).length := by
                    rw [take_flat HZ2.out.1, List.length_append, e3]
                    have := HI2.out.1
                    omega
                  have hmono := enc_mono (num := num) HX.out.1 (j + 1)
                  rw [HL.out.2, HX.out.2.1] at hmono
                  have hge : m2 + 3 + p.s.size ≤ (encB num l).length := by
                    have e1 := HI.out.1
                    rw [hlen]
                    simp only [List.length_append, List.length_cons, List.length_nil] at hmono e1 ⊢
                    omega
                  have HE := Lib.hid (And.intro hown60 (And.intro hB60 (And.intro he60 (And.intro hlen hge))))
                  have hms : m2 + 3 + p.s.size ≤ 2000000 := by omega
                  clear hown60 hB60 hg60 he60 hp60 hS0 hS12 hS13 hS16 hown56 e3 hlen hmono hge own9 p5 e5
                  by_cases hbig : m2 + 3 + p.s.size ≤ 1000
                  · have zb : ¬ (1000 : Int) < ((m2 + 3 + p.s.size : Nat) : Int) := by omega
                    go_wp2_with fail
                    go_roundw
                    case rel => exact ⟨j + 1, m2 + 3 + p.s.size, A60, c60, by omega, by omega, by go_num, rfl, HE.out.2.2.1, Lib.hid (by
                      have e1 := HI2.out.1
                      have e2 := HE.out.1
                      refine ⟨HE.out.2.2.2.1, ?_, fun k q hk hq => ?_⟩
                      · rw [take_flat HZ2.out.1]
                        rw [strCells_bvs, ← bvs_append, ← bvs_append] at e2
                        simpa [pieceB] using e2
                      · rcases Nat.lt_or_ge k j with h1 | h1
                        · exact HI2.out.2.2 k q h1 hq
                        · obtain rfl : k = j := by omega
                          rw [HZ2.out.1] at hq
                          cases hq
                          exact HZ2.out.2.2.2.2), HE.out.2.1⟩
                    case measure => simp [intOf]; omega
                  · have zb : (1000 : Int) < ((m2 + 3 + p.s.size : Nat) : Int) := by omega
                    go_wp2_with fail
                    go_ret2
                    exact RP.no (fun g => by have := g.2; have := HE.out.2.2.2.2; omega) (HY.out.1.trans (HE.out.2.1.mono (by omega)))
              · have hjn : j = n1 := by omega
                clear hlj
                go_wp2_with fail
                go_roundw
                case rel => exact ⟨i + 1, m2, A6, c6, by omega, by omega, by go_num, rfl, Lib.hid (by
                  have e1 := HI2.out.1
                  have e2 := HI2.out.2.1
                  have e3 := HI.out.1
                  have e4 := HX.out.2.1
                  have e5 : px.take j = px := by rw [hjn]; exact List.take_of_length_le (by omega)
                  rw [e5] at e1 e2
                  rw [take_flat HX.out.1]
                  refine ⟨?_, ?_, fun k r hk hr => ?_⟩
                  · simp only [lineB, ← e4] at *
                    simp only [List.length_append, List.length_cons, List.length_nil] at e1 e3 ⊢
                    omega
                  · simp only [lineB, ← e4] at *
                    simpa using e2
                  · rcases Nat.lt_or_ge k i with h1 | h1
                    · exact HI.out.2.2 k r h1 hr
                    · obtain rfl : k = i := by omega
                      rw [HX.out.1] at hr
                      cases hr
                      refine ⟨⟨HOK.out.1, HOK.out.2.1, by simp only [e4]; exact HOK.out.2.2⟩, fun q hq => ?_⟩
                      obtain ⟨t, ht, rfl⟩ := List.getElem_of_mem hq
                      exact HI2.out.2.2 t _ (by simp only at ht; omega) (List.getElem?_eq_getElem ht)), hbj⟩
                case measure => simp [intOf]; omega
    · have hin : i = n := by omega
      clear hlt
      have hE : encB num l = [YtiffcdeagckgmaaDoor.u8 num, YtiffcdeagckgmaaDoor.u8 (n : Int)] ++ (l.take i).flatMap lineB := by
        rw [List.take_of_length_le (by have := HL.out.2; omega), encB, HL.out.2]
      have hse : Seen l l.length := by have := HI.out.2.2; rwa [hin, ← HL.out.2] at this
      have hmay : MayP num l := hse.may y1 y2 (by rw [HL.out.2]; exact hn20)
      have hBW : Below w.heap.size w wr := HY.out.1.trans (hbr.mono (by omega))
      have HF := Lib.hid (And.intro hE (And.intro hmay hBW))
      clear hE hse hmay hBW hbr
      by_cases hlim : m ≤ 1000
      · have g6 : ¬ (1000 : Int) < m := by omega
        go_wp2_with fail
        go_ret2
        refine .inl ⟨⟨HF.out.2.1, by rw [HF.out.1, ← HI.out.1]; exact hlim⟩, ?_⟩
        rw [HF.out.1]
        exact EncP.own HI.out.1 HI.out.2.1 HF.out.2.2
      · have g6 : (1000 : Int) < m := by omega
        go_wp2_with fail
        go_ret2
        exact RP.no (fun g => hlim (by have := g.2; rw [HF.out.1, ← HI.out.1] at this; exact this)) HF.out.2.2
end Go.Proofs.YtiffcdeagckgmaaDoor
