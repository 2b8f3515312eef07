/- The walk over a paragraph's with (s10/bkwith.py writes it). -/
import Derived.Test.YtnojikbecohhfaaBkLin2
import Derived.Test.YtnojikbecohhfaaBkRep
import Derived.Test.YtnojikbecohhfaaAp
import Derived.Deep.CutRange
namespace Go.Proofs.Ytnojikbecohhfaa
set_option linter.unusedSimpArgs false
set_option linter.unusedVariables false
open Go.RowKit Go.Sort

theorem Ap.cloned {Z V U : World} {e : TypeId} {sz n : Nat} {v : Value} {xs : List Value} {G : List (Nat × Obj)} (h : Ap Z V e sz (.slice none 0 0) 0 [] G) (hown : U.ownsRow V.heap.size e sz v n xs) (hb : Below V.heap.size V U) : Ap Z U e sz v n xs G := by
  refine ⟨h.below.trans (hb.mono h.ge), own_base hown h.ge, fun g o hm => ?_⟩
  obtain ⟨h1, h2, h3⟩ := h.blk g o hm
  have hlt := (Array.getElem?_eq_some_iff.1 h1).1
  exact ⟨bBlk hb hlt h1, fun e => by have := own_ge hown g e; omega, h3⟩
def wyz : Array Value := #[.slice none 0 0, .int .i64 0, .int .i64 0]
theorem wyZ : ZeroIs Try.prog 37 wyz := by unfold ZeroIs; kernel_rfl
theorem wy_size : (Try.prog.info? 37).map (·.size) = some 3 := by kernel_rfl
theorem ints1 (a : Int) (w : World) : (Instr.buildSlice 25 1 #[(0, .int .i64 a)]).run Try.prog w = .ok (.slice (some ⟨w.heap.size, 0, none⟩) 1 1) (w.alloc (.cells #[.int .i64 a] 3)) := by
  go_simp
theorem built_wy (A : Option Addr) (n c : Nat) (t o : Int) : Try.prog.built 37 [(0, .slice A n c), (1, .int .i64 t), (2, .int .i64 o)] = some #[.slice A n c, .int .i64 t, .int .i64 o] := by kernel_rfl
def WithP (w : World) (r : WY) (may : Bool) (e : Ending) (w' : World) : Prop := ∃ A c, e = .returned (.tuple #[wyv A r.ends.length c r.total r.over, .bool may]) ∧ w'.ownsRow w.heap.size 3 1 (.slice A r.ends.length c) r.ends.length (ivs r.ends) ∧ Below w.heap.size w w'
attribute [-go_sem] Builtin.append_
attribute [-go_sem] Instr.buildSlice
set_option maxHeartbeats 16000000 in
set_option maxRecDepth 100000 in
theorem with_any {A A' : Option Addr} {n c m c' : Nat} {l : List It} {wd tl : Int} {y : WY} (f t : Int) (hn : n ≤ 1000000) (hwd : 0 ≤ wd ∧ wd ≤ 10000) (w : World) (h : Sl w w.heap.size 6 A n (encs l)) (hy : IvAt w w.heap.size A' m c' y.ends) (hm : m ≤ 100000)
    (hyt : 0 ≤ y.total ∧ y.total ≤ 1000000000000000000) (hyo : 0 ≤ y.over ∧ y.over ≤ 1000000000) :
    Calls Try.prog 36 #[pgv A n c wd tl, wyv A' m c' y.total y.over, .int .i64 f, .int .i64 t] w (WithP w (withW l wd tl y f t) (lineD l wd tl f t).may) := by
  have hd := lineD_bd l wd tl f t
  have hyl := hy.len
  obtain ⟨V1, hV1, y4, hb1⟩ := pgbox w A n c wd tl
  obtain ⟨V2, hV2⟩ : ∃ q, V1.alloc (.cells #[.slice A' m c', .int .i64 y.total, .int .i64 y.over] 37) = q := ⟨_, rfl⟩
  have y5 : V2.heap[V1.heap.size]? = some (.cells #[.slice A' m c', .int .i64 y.total, .int .i64 y.over] 37) := by rw [← hV2]; exact heap_alloc_new _ _
  have hb2 : Below V1.heap.size V1 V2 := by rw [← hV2]; exact (Below.refl _ _).alloc (Nat.le_refl _) _
  obtain ⟨V3, hV3⟩ : ∃ q, V2.alloc (.cells wyz 37) = q := ⟨_, rfl⟩
  have y8 : V3.heap[V2.heap.size]? = some (.cells wyz 37) := by rw [← hV3]; exact heap_alloc_new _ _
  have hb3 : Below V2.heap.size V2 V3 := by rw [← hV3]; exact (Below.refl _ _).alloc (Nat.le_refl _) _
  have hb12 := bNext hb1 hb2
  have hb13 := bNext hb12 hb3
  have y4' := bBlk (hb2.trans (hb3.mono hb2.size)) (Array.getElem?_eq_some_iff.1 y4).1 y4
  have y5' := bBlk hb3 (Array.getElem?_eq_some_iff.1 y5).1 y5
  have hpl := pline_any (c := c) (wd := wd) (tl := tl) f t hn hwd V3 (h.next hb13)
  unfold pgv at hpl ⊢
  unfold wyv
  obtain ⟨D, hD⟩ : ∃ D, lineD l wd tl f t = D := ⟨_, rfl⟩
  have hwW : withW l wd tl y f t = ⟨y.ends ++ [t], y.total + D.n, y.over + (if D.over then 1 else 0)⟩ := by unfold withW; rw [hD]
  obtain ⟨RR, hRR⟩ : ∃ q, withW l wd tl y f t = q := ⟨_, rfl⟩
  rw [hRR] at hwW
  rw [hRR]
  have HW := Lib.hid hwW
  rw [hD] at hpl hd ⊢
  obtain ⟨yn, yt, yo⟩ := y
  simp only at hyt hyo hy hyl y5 y5' hV2 ⊢
  obtain ⟨zw, hzw⟩ : ∃ q, wyz = q := ⟨_, rfl⟩
  have hwz := wyZ
  have hz3 : zw.size = 3 := by rw [← hzw]; rfl
  rw [hzw] at hwz y8 hV3
  have s1 := hb1.size
  have s2 := hb2.size
  have s3 := hb3.size
  have l4 := (Array.getElem?_eq_some_iff.1 y4).1
  have l5 := (Array.getElem?_eq_some_iff.1 y5).1
  have l8 := (Array.getElem?_eq_some_iff.1 y8).1
  have HH := Lib.hid (And.intro hy (And.intro hb13 (And.intro y4' (And.intro y5' y8))))
  have HL := Lib.hid hyl
  clear h hy hyl hb1 hb2 hb3 hb12 hb13 y4 y5 y8 hD hwW hRR hzw y4' y5'
  go_enter Try.func36, Try.ntmps36
  go_upto_region 1 with (first | (refine wpList_new rfl hwz rfl ?_) | fail)
  try rw [hV1]
  try rw [hV2]
  try rw [hV3]
  clear hwz hV1 hV2 hV3
  obtain ⟨hy, hb13, y4', y5', y8⟩ := HH.out
  have hpi : (Try.prog.info? 59).map (·.size) = some (#[Value.slice A n c, .int .i64 wd, .int .i64 tl] : Array Value).size := by
    show _ = some 3
    kernel_rfl
  refine wp_region_lit ?_
  refine wpList_load_row rfl 59 (.tmp 4) rfl _ rfl _ #[.slice A n c, .int .i64 wd, .int .i64 tl] (0, 0) _ y4' Try.underlying59 rfl hpi ?_
  (try simp only [Act.put, List.setIfInBounds_toArray, List.set_cons_zero, List.set_cons_succ])
  clear hy hb13 y4' y5' y8 hpi
  go_wp2_with fail
  refine Calls.mono hpl ?_
  rintro e Z ⟨rfl, hbZ⟩
  clear hpl
  obtain ⟨hy, hb13, y4', y5', y8⟩ := HH.out
  have z5 := bBlk hbZ (Array.getElem?_eq_some_iff.1 y5').1 y5'
  have z8 := bBlk hbZ (Array.getElem?_eq_some_iff.1 y8).1 y8
  have hBZ := bNext hb13 hbZ
  have hyZ := hy.nxt hBZ
  have sZ := hbZ.size
  have hclone := fun W (hb : Below Z.heap.size Z W) => clone_any W (hyZ.nxt hb) (by omega)
  have lz5 := (Array.getElem?_eq_some_iff.1 z5).1
  have k0 : Z.cell? ⟨V1.heap.size, 0, none⟩ = some (.slice A' m c') := blk_cell z5 rfl
  have k1 : Z.cell? ⟨V1.heap.size, 1, none⟩ = some (.int .i64 yt) := blk_cell z5 rfl
  have k2 : Z.cell? ⟨V1.heap.size, 2, none⟩ = some (.int .i64 yo) := blk_cell z5 rfl
  have HZ := Lib.hid (And.intro z8 (And.intro hBZ hy.wide))
  clear hy hb13 y4' y5' y8 hbZ z5 z8 hBZ hyZ HH
  have g1 : IntKind.i64.wrap (yt + D.n) = yt + D.n := IntWalk.i64_in _ (by omega)
  obtain ⟨dn, dov, dmay⟩ := D
  simp only at g1 hd ⊢
  go_upto_region 2 with (fail)
  go_cut [13] from 22 to 34 (fun s13 wx => ∃ G A2 c2, s13 = .pointer (some ⟨G, 0, none⟩) ∧ Z.heap.size ≤ G ∧ wx.heap[G]? = some (.cells #[.slice A2 (m + 1) c2, .int .i64 (yt + dn), .int .i64 yo] 37) ∧ wx.ownsRow Z.heap.size 3 1 (.slice A2 (m + 1) c2) (m + 1) (ivs (yn ++ [t])) ∧ (Value.slice A2 (m + 1) c2).ownBlock ≠ some G ∧ Below Z.heap.size Z wx)
  case first =>
    let S : World → Prop := fun w' => Below Z.heap.size Z w'
    have q0 : ∀ w', S w' → w'.cell? ⟨V1.heap.size, 0, none⟩ = some (.slice A' m c') := fun w' h => (Below.cell (show Below Z.heap.size Z w' from h) (p := ⟨V1.heap.size, 0, none⟩) lz5).trans k0
    have q1 : ∀ w', S w' → w'.cell? ⟨V1.heap.size, 1, none⟩ = some (.int .i64 yt) := fun w' h => (Below.cell (show Below Z.heap.size Z w' from h) (p := ⟨V1.heap.size, 1, none⟩) lz5).trans k1
    have q2 : ∀ w', S w' → w'.cell? ⟨V1.heap.size, 2, none⟩ = some (.int .i64 yo) := fun w' h => (Below.cell (show Below Z.heap.size Z w' from h) (p := ⟨V1.heap.size, 2, none⟩) lz5).trans k2
    have hS0 : S Z.drew := (Below.refl _ _).drew
    have hA : Ap Z Z.drew 3 1 (.slice none 0 0) 0 [] [] := Ap.start Z _ _
    have hii : (Try.prog.info? 37).map (·.size) = some 3 := wy_size
    have hzz := wyZ
    have hivs := ivs_append yn [t]
    clear k0 k1 k2 HZ
    refine wp_region_held (S := S) (by kernel_rfl) ?_
    change wpAnyH _ _ _ _ S _ _ _ Z.drew
    change At 0 _
    iterate 2 (first | (apply tkA; (case hi => (simp only [List.getElem?_toArray, List.getElem?_cons_zero, List.getElem?_cons_succ]; rfl)); (case hw => rfl); (case hy => (intro w' hSw; have p0 := q0 w' hSw; (try simp only [S] at hSw); go_simp; (try with_reducible rfl))); (case hs => kernel_rfl); (case hf => kernel_rfl); (case hr => kernel_rfl); (case hQ => exact fun _ _ _ h => h); (case hS => assumption); (try simp only [Act.put, List.setIfInBounds_toArray, List.set_cons_zero, List.set_cons_succ, Nat.reduceAdd])) | (apply skA; (case hi => (simp only [List.getElem?_toArray, List.getElem?_cons_zero, List.getElem?_cons_succ]; rfl)); (case hw => rfl); (case hs => kernel_rfl); (case hf => kernel_rfl); (case hr => kernel_rfl); (case hQ => exact fun _ _ _ h => h); (case hS => assumption); (try simp only [Act.put, List.setIfInBounds_toArray, List.set_cons_zero, List.set_cons_succ, Nat.reduceAdd])))
    change wpAnyH _ _ _ _ _ _ _ _ _
    refine wpAnyH_take (i := 3) (oi := ?oi_1) (v := ?v_1) ?ho_1 ?h1_1 ?h2_1 ?h3_1 ?hq_1 (Or.inl ⟨?hw_1, ?hy_1⟩) ?hs_1 ?rest_1; (case h2_1 => kernel_rfl); (case h3_1 => kernel_rfl); (case ho_1 => (simp only [List.getElem?_toArray, List.getElem?_cons_zero, List.getElem?_cons_succ]; rfl)); (case h1_1 => kernel_rfl); (case hq_1 => exact fun _ _ _ h => h); (case hw_1 => rfl); (case hy_1 => (intro w' hSw; (try simp only [S] at hSw); go_simp; (try with_reducible rfl))); (case hs_1 => assumption); (try simp only [Act.put, List.setIfInBounds_toArray, List.set_cons_zero, List.set_cons_succ])
    change At 6 _
    iterate 6 (first | (apply tkA; (case hi => (simp only [List.getElem?_toArray, List.getElem?_cons_zero, List.getElem?_cons_succ]; rfl)); (case hw => rfl); (case hy => (intro w' hSw; have p1 := q1 w' hSw; have p2 := q2 w' hSw; (try simp only [S] at hSw); go_simp; (try with_reducible rfl))); (case hs => kernel_rfl); (case hf => kernel_rfl); (case hr => kernel_rfl); (case hQ => exact fun _ _ _ h => h); (case hS => assumption); (try simp only [Act.put, List.setIfInBounds_toArray, List.set_cons_zero, List.set_cons_succ, Nat.reduceAdd])) | (apply skA; (case hi => (simp only [List.getElem?_toArray, List.getElem?_cons_zero, List.getElem?_cons_succ]; rfl)); (case hw => rfl); (case hs => kernel_rfl); (case hf => kernel_rfl); (case hr => kernel_rfl); (case hQ => exact fun _ _ _ h => h); (case hS => assumption); (try simp only [Act.put, List.setIfInBounds_toArray, List.set_cons_zero, List.set_cons_succ, Nat.reduceAdd])))
    change wpAnyH _ _ _ _ _ _ _ _ _
    clear q0 q1 q2
    have hone : ∀ u ∈ [Value.int .i64 t], u.oneCell' = true := fun u hu => by
      have : u = Value.int .i64 t := by simpa using hu
      rw [this]; rfl
    refine wpAnyH_ready (rs := [2, 4, 13]) (by kernel_rfl) (by simp) (AllReadyH.cons (o := ?oo2_10) ?hoo2_10 (fun K hK => ?stepQB2) (AllReadyH.cons (o := ?oo4_10) ?hoo4_10 (fun K hK => ?stepQB4) (AllReadyH.cons (o := ?oo13_10) ?hoo13_10 (fun K hK => ?stepQB13) AllReadyH.nil))); (case hoo2_10 => (simp only [List.getElem?_toArray, List.getElem?_cons_zero, List.getElem?_cons_succ]; rfl)); (case hoo4_10 => (simp only [List.getElem?_toArray, List.getElem?_cons_zero, List.getElem?_cons_succ]; rfl)); (case hoo13_10 => (simp only [List.getElem?_toArray, List.getElem?_cons_zero, List.getElem?_cons_succ]; rfl))
    case stepQB2 =>
      go_simp
      refine Calls.mono (hclone _ hA.below) ?_
      rintro e V19 ⟨A1, c1, rfl, hown1, hbc⟩
      have hA2 := hA.cloned hown1 hbc
      clear hown1 hbc
      refine hK.out _ _ hA2.below (fun _ => ?_)
      clear hK K hA
      (try simp only [Act.put, List.setIfInBounds_toArray, List.set_cons_zero, List.set_cons_succ])
      have hA := hA2
      clear hA2
      refine wpAnyH_ready (rs := [4, 13]) (by kernel_rfl) (by simp) (AllReadyH.cons (o := ?oo4_11) ?hoo4_11 (fun K hK => ?stepQC4) (AllReadyH.cons (o := ?oo13_11) ?hoo13_11 (fun K hK => ?stepQC13) AllReadyH.nil)); (case hoo4_11 => (simp only [List.getElem?_toArray, List.getElem?_cons_zero, List.getElem?_cons_succ]; rfl)); (case hoo13_11 => (simp only [List.getElem?_toArray, List.getElem?_cons_zero, List.getElem?_cons_succ]; rfl))
      case stepQC4 =>
        refine step_slice rfl 25 1 #[(0, .tmp 25)] rfl (by simp only [List.map_toArray, List.map_cons, List.map_nil]; exact ints1 t V19) ?_
        refine Ap.go1 hA ?_
        intro V29 gb hA2
        refine hK.out _ _ hA2.below (fun _ => ?_)
        clear hK K hA
        (try simp only [Act.put, List.setIfInBounds_toArray, List.set_cons_zero, List.set_cons_succ])
        have hA := hA2
        clear hA2
        refine wpAnyH_ready (rs := [5, 13]) (by kernel_rfl) (by simp) (AllReadyH.cons (o := ?oo5_12) ?hoo5_12 (fun K hK => ?stepQD5) (AllReadyH.cons (o := ?oo13_12) ?hoo13_12 (fun K hK => ?stepQD13) AllReadyH.nil)); (case hoo5_12 => (simp only [List.getElem?_toArray, List.getElem?_cons_zero, List.getElem?_cons_succ]; rfl)); (case hoo13_12 => (simp only [List.getElem?_toArray, List.getElem?_cons_zero, List.getElem?_cons_succ]; rfl))
        case stepQD5 =>
          refine step_app _ rfl (.tmp 24) (.tmp 26) 25 rfl (base := Z.heap.size) Try.underlying25 elemI rfl hA.own rfl (Sl.new (sz := 1) (n := 1) (hA.blk gb _ (List.Mem.head _)).1 rfl) hone (by simp only [maxLen]; omega) (by omega) hA.ge ?_
          intro A2 c2 V39 hown1 hg1 hb1 hat1
          have hA2 := hA.app hown1 hg1 hb1 hat1
          clear hown1 hg1 hb1 hat1
          refine hK.out _ _ hA2.below (fun _ => ?_)
          clear hK K hA
          (try simp only [Act.put, List.setIfInBounds_toArray, List.set_cons_zero, List.set_cons_succ])
          have hA := hA2
          clear hA2
          refine wpAnyH_take (i := 12) (oi := ?oi_2) (v := ?v_2) ?ho_2 ?h1_2 ?h2_2 ?h3_2 ?hq_2 (Or.inl ⟨?hw_2, ?hy_2⟩) ?hs_2 ?rest_2; (case h2_2 => kernel_rfl); (case h3_2 => kernel_rfl); (case ho_2 => (simp only [List.getElem?_toArray, List.getElem?_cons_zero, List.getElem?_cons_succ]; rfl)); (case h1_2 => kernel_rfl); (case hq_2 => exact fun _ _ _ h => h); (case hw_2 => rfl); (case hy_2 => (intro w' hSw; refine exec_built (t := 37) (cs := #[.slice A2 (m + 1) c2, .int .i64 (yt + dn), .int .i64 yo]) (parts := #[(0, .tmp 27), (1, .tmp 31), (2, .tmp 33)]) ?_ ?_ w'; exact rfl; simp only [List.map_toArray, List.map_cons, List.map_nil]; exact built_wy _ _ _ _ _)); (case hs_2 => assumption); (try simp only [Act.put, List.setIfInBounds_toArray, List.set_cons_zero, List.set_cons_succ])
          refine wpAnyH_ready (rs := [13]) (by kernel_rfl) (by simp) (AllReadyH.cons (o := ?oo13_13) ?hoo13_13 (fun K hK => ?steponly13) AllReadyH.nil); (case hoo13_13 => (simp only [List.getElem?_toArray, List.getElem?_cons_zero, List.getElem?_cons_succ]; rfl))
          refine step_new rfl hzz rfl ?_
          refine Ap.goP hA ?_
          intro V49 gs hA2
          refine hK.out _ _ hA2.below (fun _ => ?_)
          clear hK K hA
          (try simp only [Act.put, List.setIfInBounds_toArray, List.set_cons_zero, List.set_cons_succ])
          have hA := hA2
          clear hA2
          refine wpAnyH_ready (rs := [14]) (by kernel_rfl) (by simp) (AllReadyH.cons (o := ?oo14_14) ?hoo14_14 (fun K hK => ?steponly14) AllReadyH.nil); (case hoo14_14 => (simp only [List.getElem?_toArray, List.getElem?_cons_zero, List.getElem?_cons_succ]; rfl))
          have hrow := hA.row (List.Mem.head _) #[.slice A2 (m + 1) c2, .int .i64 (yt + dn), .int .i64 yo]
          refine step_row rfl 37 (.tmp 13) (.tmp 34) rfl gs #[.slice A2 (m + 1) c2, .int .i64 (yt + dn), .int .i64 yo] rfl rfl _ wyz (hA.blk gs _ (List.Mem.head _)).1 hii rfl (by simp [Value.oneCell']) ?_
          obtain ⟨r1, r2, r3, r4, r5⟩ := hrow
          refine hK.out _ _ r1 (fun _ => ?_)
          clear hK K hA
          (try simp only [Act.put, List.setIfInBounds_toArray, List.set_cons_zero, List.set_cons_succ])
          refine wpAnyH_done (by kernel_rfl) ?_ _
          have HE := Lib.hid (And.intro r1 (And.intro r2 (And.intro r3 (And.intro r4 r5))))
          clear r1 r2 r3 r4 r5 hclone
          go_wp2_with fail
          go_meet
          case rel =>
            obtain ⟨r1, r2, r3, r4, r5⟩ := HE.out
            exact ⟨gs, A2, c2, rfl, r5, r3, by rw [hivs]; exact r2, r4, r1⟩
        case stepQD13 =>
          refine step_new rfl hzz rfl ?_
          refine Ap.goP hA ?_
          intro V39 gs hA2
          refine hK.out _ _ hA2.below (fun _ => ?_)
          clear hK K hA
          (try simp only [Act.put, List.setIfInBounds_toArray, List.set_cons_zero, List.set_cons_succ])
          have hA := hA2
          clear hA2
          refine wpAnyH_ready (rs := [5]) (by kernel_rfl) (by simp) (AllReadyH.cons (o := ?oo5_15) ?hoo5_15 (fun K hK => ?steponly15) AllReadyH.nil); (case hoo5_15 => (simp only [List.getElem?_toArray, List.getElem?_cons_zero, List.getElem?_cons_succ]; rfl))
          refine step_app _ rfl (.tmp 24) (.tmp 26) 25 rfl (base := Z.heap.size) Try.underlying25 elemI rfl hA.own rfl (Sl.new (sz := 1) (n := 1) (hA.blk gb _ (List.Mem.tail _ (List.Mem.head _))).1 rfl) hone (by simp only [maxLen]; omega) (by omega) hA.ge ?_
          intro A2 c2 V49 hown1 hg1 hb1 hat1
          have hA2 := hA.app hown1 hg1 hb1 hat1
          clear hown1 hg1 hb1 hat1
          refine hK.out _ _ hA2.below (fun _ => ?_)
          clear hK K hA
          (try simp only [Act.put, List.setIfInBounds_toArray, List.set_cons_zero, List.set_cons_succ])
          have hA := hA2
          clear hA2
          refine wpAnyH_take (i := 12) (oi := ?oi_3) (v := ?v_3) ?ho_3 ?h1_3 ?h2_3 ?h3_3 ?hq_3 (Or.inl ⟨?hw_3, ?hy_3⟩) ?hs_3 ?rest_3; (case h2_3 => kernel_rfl); (case h3_3 => kernel_rfl); (case ho_3 => (simp only [List.getElem?_toArray, List.getElem?_cons_zero, List.getElem?_cons_succ]; rfl)); (case h1_3 => kernel_rfl); (case hq_3 => exact fun _ _ _ h => h); (case hw_3 => rfl); (case hy_3 => (intro w' hSw; refine exec_built (t := 37) (cs := #[.slice A2 (m + 1) c2, .int .i64 (yt + dn), .int .i64 yo]) (parts := #[(0, .tmp 27), (1, .tmp 31), (2, .tmp 33)]) ?_ ?_ w'; exact rfl; simp only [List.map_toArray, List.map_cons, List.map_nil]; exact built_wy _ _ _ _ _)); (case hs_3 => assumption); (try simp only [Act.put, List.setIfInBounds_toArray, List.set_cons_zero, List.set_cons_succ])
          refine wpAnyH_ready (rs := [14]) (by kernel_rfl) (by simp) (AllReadyH.cons (o := ?oo14_16) ?hoo14_16 (fun K hK => ?steponly16) AllReadyH.nil); (case hoo14_16 => (simp only [List.getElem?_toArray, List.getElem?_cons_zero, List.getElem?_cons_succ]; rfl))
          have hrow := hA.row (List.Mem.head _) #[.slice A2 (m + 1) c2, .int .i64 (yt + dn), .int .i64 yo]
          refine step_row rfl 37 (.tmp 13) (.tmp 34) rfl gs #[.slice A2 (m + 1) c2, .int .i64 (yt + dn), .int .i64 yo] rfl rfl _ wyz (hA.blk gs _ (List.Mem.head _)).1 hii rfl (by simp [Value.oneCell']) ?_
          obtain ⟨r1, r2, r3, r4, r5⟩ := hrow
          refine hK.out _ _ r1 (fun _ => ?_)
          clear hK K hA
          (try simp only [Act.put, List.setIfInBounds_toArray, List.set_cons_zero, List.set_cons_succ])
          refine wpAnyH_done (by kernel_rfl) ?_ _
          have HE := Lib.hid (And.intro r1 (And.intro r2 (And.intro r3 (And.intro r4 r5))))
          clear r1 r2 r3 r4 r5 hclone
          go_wp2_with fail
          go_meet
          case rel =>
            obtain ⟨r1, r2, r3, r4, r5⟩ := HE.out
            exact ⟨gs, A2, c2, rfl, r5, r3, by rw [hivs]; exact r2, r4, r1⟩
      case stepQC13 =>
        refine step_new rfl hzz rfl ?_
        refine Ap.goP hA ?_
        intro V29 gs hA2
        refine hK.out _ _ hA2.below (fun _ => ?_)
        clear hK K hA
        (try simp only [Act.put, List.setIfInBounds_toArray, List.set_cons_zero, List.set_cons_succ])
        have hA := hA2
        clear hA2
        refine wpAnyH_ready (rs := [4]) (by kernel_rfl) (by simp) (AllReadyH.cons (o := ?oo4_17) ?hoo4_17 (fun K hK => ?steponly17) AllReadyH.nil); (case hoo4_17 => (simp only [List.getElem?_toArray, List.getElem?_cons_zero, List.getElem?_cons_succ]; rfl))
        refine step_slice rfl 25 1 #[(0, .tmp 25)] rfl (by simp only [List.map_toArray, List.map_cons, List.map_nil]; exact ints1 t V29) ?_
        refine Ap.go1 hA ?_
        intro V39 gb hA2
        refine hK.out _ _ hA2.below (fun _ => ?_)
        clear hK K hA
        (try simp only [Act.put, List.setIfInBounds_toArray, List.set_cons_zero, List.set_cons_succ])
        have hA := hA2
        clear hA2
        refine wpAnyH_ready (rs := [5]) (by kernel_rfl) (by simp) (AllReadyH.cons (o := ?oo5_18) ?hoo5_18 (fun K hK => ?steponly18) AllReadyH.nil); (case hoo5_18 => (simp only [List.getElem?_toArray, List.getElem?_cons_zero, List.getElem?_cons_succ]; rfl))
        refine step_app _ rfl (.tmp 24) (.tmp 26) 25 rfl (base := Z.heap.size) Try.underlying25 elemI rfl hA.own rfl (Sl.new (sz := 1) (n := 1) (hA.blk gb _ (List.Mem.head _)).1 rfl) hone (by simp only [maxLen]; omega) (by omega) hA.ge ?_
        intro A2 c2 V49 hown1 hg1 hb1 hat1
        have hA2 := hA.app hown1 hg1 hb1 hat1
        clear hown1 hg1 hb1 hat1
        refine hK.out _ _ hA2.below (fun _ => ?_)
        clear hK K hA
        (try simp only [Act.put, List.setIfInBounds_toArray, List.set_cons_zero, List.set_cons_succ])
        have hA := hA2
        clear hA2
        refine wpAnyH_take (i := 12) (oi := ?oi_4) (v := ?v_4) ?ho_4 ?h1_4 ?h2_4 ?h3_4 ?hq_4 (Or.inl ⟨?hw_4, ?hy_4⟩) ?hs_4 ?rest_4; (case h2_4 => kernel_rfl); (case h3_4 => kernel_rfl); (case ho_4 => (simp only [List.getElem?_toArray, List.getElem?_cons_zero, List.getElem?_cons_succ]; rfl)); (case h1_4 => kernel_rfl); (case hq_4 => exact fun _ _ _ h => h); (case hw_4 => rfl); (case hy_4 => (intro w' hSw; refine exec_built (t := 37) (cs := #[.slice A2 (m + 1) c2, .int .i64 (yt + dn), .int .i64 yo]) (parts := #[(0, .tmp 27), (1, .tmp 31), (2, .tmp 33)]) ?_ ?_ w'; exact rfl; simp only [List.map_toArray, List.map_cons, List.map_nil]; exact built_wy _ _ _ _ _)); (case hs_4 => assumption); (try simp only [Act.put, List.setIfInBounds_toArray, List.set_cons_zero, List.set_cons_succ])
        refine wpAnyH_ready (rs := [14]) (by kernel_rfl) (by simp) (AllReadyH.cons (o := ?oo14_19) ?hoo14_19 (fun K hK => ?steponly19) AllReadyH.nil); (case hoo14_19 => (simp only [List.getElem?_toArray, List.getElem?_cons_zero, List.getElem?_cons_succ]; rfl))
        have hrow := hA.row (List.Mem.tail _ (List.Mem.head _)) #[.slice A2 (m + 1) c2, .int .i64 (yt + dn), .int .i64 yo]
        refine step_row rfl 37 (.tmp 13) (.tmp 34) rfl gs #[.slice A2 (m + 1) c2, .int .i64 (yt + dn), .int .i64 yo] rfl rfl _ wyz (hA.blk gs _ (List.Mem.tail _ (List.Mem.head _))).1 hii rfl (by simp [Value.oneCell']) ?_
        obtain ⟨r1, r2, r3, r4, r5⟩ := hrow
        refine hK.out _ _ r1 (fun _ => ?_)
        clear hK K hA
        (try simp only [Act.put, List.setIfInBounds_toArray, List.set_cons_zero, List.set_cons_succ])
        refine wpAnyH_done (by kernel_rfl) ?_ _
        have HE := Lib.hid (And.intro r1 (And.intro r2 (And.intro r3 (And.intro r4 r5))))
        clear r1 r2 r3 r4 r5 hclone
        go_wp2_with fail
        go_meet
        case rel =>
          obtain ⟨r1, r2, r3, r4, r5⟩ := HE.out
          exact ⟨gs, A2, c2, rfl, r5, r3, by rw [hivs]; exact r2, r4, r1⟩
    case stepQB4 =>
      refine step_slice rfl 25 1 #[(0, .tmp 25)] rfl (by simp only [List.map_toArray, List.map_cons, List.map_nil]; exact ints1 t Z.drew) ?_
      refine Ap.go1 hA ?_
      intro V19 gb hA2
      refine hK.out _ _ hA2.below (fun _ => ?_)
      clear hK K hA
      (try simp only [Act.put, List.setIfInBounds_toArray, List.set_cons_zero, List.set_cons_succ])
      have hA := hA2
      clear hA2
      refine wpAnyH_ready (rs := [2, 13]) (by kernel_rfl) (by simp) (AllReadyH.cons (o := ?oo2_20) ?hoo2_20 (fun K hK => ?stepQE2) (AllReadyH.cons (o := ?oo13_20) ?hoo13_20 (fun K hK => ?stepQE13) AllReadyH.nil)); (case hoo2_20 => (simp only [List.getElem?_toArray, List.getElem?_cons_zero, List.getElem?_cons_succ]; rfl)); (case hoo13_20 => (simp only [List.getElem?_toArray, List.getElem?_cons_zero, List.getElem?_cons_succ]; rfl))
      case stepQE2 =>
        go_simp
        refine Calls.mono (hclone _ hA.below) ?_
        rintro e V29 ⟨A1, c1, rfl, hown1, hbc⟩
        have hA2 := hA.cloned hown1 hbc
        clear hown1 hbc
        refine hK.out _ _ hA2.below (fun _ => ?_)
        clear hK K hA
        (try simp only [Act.put, List.setIfInBounds_toArray, List.set_cons_zero, List.set_cons_succ])
        have hA := hA2
        clear hA2
        refine wpAnyH_ready (rs := [5, 13]) (by kernel_rfl) (by simp) (AllReadyH.cons (o := ?oo5_21) ?hoo5_21 (fun K hK => ?stepQF5) (AllReadyH.cons (o := ?oo13_21) ?hoo13_21 (fun K hK => ?stepQF13) AllReadyH.nil)); (case hoo5_21 => (simp only [List.getElem?_toArray, List.getElem?_cons_zero, List.getElem?_cons_succ]; rfl)); (case hoo13_21 => (simp only [List.getElem?_toArray, List.getElem?_cons_zero, List.getElem?_cons_succ]; rfl))
        case stepQF5 =>
          refine step_app _ rfl (.tmp 24) (.tmp 26) 25 rfl (base := Z.heap.size) Try.underlying25 elemI rfl hA.own rfl (Sl.new (sz := 1) (n := 1) (hA.blk gb _ (List.Mem.head _)).1 rfl) hone (by simp only [maxLen]; omega) (by omega) hA.ge ?_
          intro A2 c2 V39 hown1 hg1 hb1 hat1
          have hA2 := hA.app hown1 hg1 hb1 hat1
          clear hown1 hg1 hb1 hat1
          refine hK.out _ _ hA2.below (fun _ => ?_)
          clear hK K hA
          (try simp only [Act.put, List.setIfInBounds_toArray, List.set_cons_zero, List.set_cons_succ])
          have hA := hA2
          clear hA2
          refine wpAnyH_take (i := 12) (oi := ?oi_5) (v := ?v_5) ?ho_5 ?h1_5 ?h2_5 ?h3_5 ?hq_5 (Or.inl ⟨?hw_5, ?hy_5⟩) ?hs_5 ?rest_5; (case h2_5 => kernel_rfl); (case h3_5 => kernel_rfl); (case ho_5 => (simp only [List.getElem?_toArray, List.getElem?_cons_zero, List.getElem?_cons_succ]; rfl)); (case h1_5 => kernel_rfl); (case hq_5 => exact fun _ _ _ h => h); (case hw_5 => rfl); (case hy_5 => (intro w' hSw; refine exec_built (t := 37) (cs := #[.slice A2 (m + 1) c2, .int .i64 (yt + dn), .int .i64 yo]) (parts := #[(0, .tmp 27), (1, .tmp 31), (2, .tmp 33)]) ?_ ?_ w'; exact rfl; simp only [List.map_toArray, List.map_cons, List.map_nil]; exact built_wy _ _ _ _ _)); (case hs_5 => assumption); (try simp only [Act.put, List.setIfInBounds_toArray, List.set_cons_zero, List.set_cons_succ])
          refine wpAnyH_ready (rs := [13]) (by kernel_rfl) (by simp) (AllReadyH.cons (o := ?oo13_22) ?hoo13_22 (fun K hK => ?steponly22) AllReadyH.nil); (case hoo13_22 => (simp only [List.getElem?_toArray, List.getElem?_cons_zero, List.getElem?_cons_succ]; rfl))
          refine step_new rfl hzz rfl ?_
          refine Ap.goP hA ?_
          intro V49 gs hA2
          refine hK.out _ _ hA2.below (fun _ => ?_)
          clear hK K hA
          (try simp only [Act.put, List.setIfInBounds_toArray, List.set_cons_zero, List.set_cons_succ])
          have hA := hA2
          clear hA2
          refine wpAnyH_ready (rs := [14]) (by kernel_rfl) (by simp) (AllReadyH.cons (o := ?oo14_23) ?hoo14_23 (fun K hK => ?steponly23) AllReadyH.nil); (case hoo14_23 => (simp only [List.getElem?_toArray, List.getElem?_cons_zero, List.getElem?_cons_succ]; rfl))
          have hrow := hA.row (List.Mem.head _) #[.slice A2 (m + 1) c2, .int .i64 (yt + dn), .int .i64 yo]
          refine step_row rfl 37 (.tmp 13) (.tmp 34) rfl gs #[.slice A2 (m + 1) c2, .int .i64 (yt + dn), .int .i64 yo] rfl rfl _ wyz (hA.blk gs _ (List.Mem.head _)).1 hii rfl (by simp [Value.oneCell']) ?_
          obtain ⟨r1, r2, r3, r4, r5⟩ := hrow
          refine hK.out _ _ r1 (fun _ => ?_)
          clear hK K hA
          (try simp only [Act.put, List.setIfInBounds_toArray, List.set_cons_zero, List.set_cons_succ])
          refine wpAnyH_done (by kernel_rfl) ?_ _
          have HE := Lib.hid (And.intro r1 (And.intro r2 (And.intro r3 (And.intro r4 r5))))
          clear r1 r2 r3 r4 r5 hclone
          go_wp2_with fail
          go_meet
          case rel =>
            obtain ⟨r1, r2, r3, r4, r5⟩ := HE.out
            exact ⟨gs, A2, c2, rfl, r5, r3, by rw [hivs]; exact r2, r4, r1⟩
        case stepQF13 =>
          refine step_new rfl hzz rfl ?_
          refine Ap.goP hA ?_
          intro V39 gs hA2
          refine hK.out _ _ hA2.below (fun _ => ?_)
          clear hK K hA
          (try simp only [Act.put, List.setIfInBounds_toArray, List.set_cons_zero, List.set_cons_succ])
          have hA := hA2
          clear hA2
          refine wpAnyH_ready (rs := [5]) (by kernel_rfl) (by simp) (AllReadyH.cons (o := ?oo5_24) ?hoo5_24 (fun K hK => ?steponly24) AllReadyH.nil); (case hoo5_24 => (simp only [List.getElem?_toArray, List.getElem?_cons_zero, List.getElem?_cons_succ]; rfl))
          refine step_app _ rfl (.tmp 24) (.tmp 26) 25 rfl (base := Z.heap.size) Try.underlying25 elemI rfl hA.own rfl (Sl.new (sz := 1) (n := 1) (hA.blk gb _ (List.Mem.tail _ (List.Mem.head _))).1 rfl) hone (by simp only [maxLen]; omega) (by omega) hA.ge ?_
          intro A2 c2 V49 hown1 hg1 hb1 hat1
          have hA2 := hA.app hown1 hg1 hb1 hat1
          clear hown1 hg1 hb1 hat1
          refine hK.out _ _ hA2.below (fun _ => ?_)
          clear hK K hA
          (try simp only [Act.put, List.setIfInBounds_toArray, List.set_cons_zero, List.set_cons_succ])
          have hA := hA2
          clear hA2
          refine wpAnyH_take (i := 12) (oi := ?oi_6) (v := ?v_6) ?ho_6 ?h1_6 ?h2_6 ?h3_6 ?hq_6 (Or.inl ⟨?hw_6, ?hy_6⟩) ?hs_6 ?rest_6; (case h2_6 => kernel_rfl); (case h3_6 => kernel_rfl); (case ho_6 => (simp only [List.getElem?_toArray, List.getElem?_cons_zero, List.getElem?_cons_succ]; rfl)); (case h1_6 => kernel_rfl); (case hq_6 => exact fun _ _ _ h => h); (case hw_6 => rfl); (case hy_6 => (intro w' hSw; refine exec_built (t := 37) (cs := #[.slice A2 (m + 1) c2, .int .i64 (yt + dn), .int .i64 yo]) (parts := #[(0, .tmp 27), (1, .tmp 31), (2, .tmp 33)]) ?_ ?_ w'; exact rfl; simp only [List.map_toArray, List.map_cons, List.map_nil]; exact built_wy _ _ _ _ _)); (case hs_6 => assumption); (try simp only [Act.put, List.setIfInBounds_toArray, List.set_cons_zero, List.set_cons_succ])
          refine wpAnyH_ready (rs := [14]) (by kernel_rfl) (by simp) (AllReadyH.cons (o := ?oo14_25) ?hoo14_25 (fun K hK => ?steponly25) AllReadyH.nil); (case hoo14_25 => (simp only [List.getElem?_toArray, List.getElem?_cons_zero, List.getElem?_cons_succ]; rfl))
          have hrow := hA.row (List.Mem.head _) #[.slice A2 (m + 1) c2, .int .i64 (yt + dn), .int .i64 yo]
          refine step_row rfl 37 (.tmp 13) (.tmp 34) rfl gs #[.slice A2 (m + 1) c2, .int .i64 (yt + dn), .int .i64 yo] rfl rfl _ wyz (hA.blk gs _ (List.Mem.head _)).1 hii rfl (by simp [Value.oneCell']) ?_
          obtain ⟨r1, r2, r3, r4, r5⟩ := hrow
          refine hK.out _ _ r1 (fun _ => ?_)
          clear hK K hA
          (try simp only [Act.put, List.setIfInBounds_toArray, List.set_cons_zero, List.set_cons_succ])
          refine wpAnyH_done (by kernel_rfl) ?_ _
          have HE := Lib.hid (And.intro r1 (And.intro r2 (And.intro r3 (And.intro r4 r5))))
          clear r1 r2 r3 r4 r5 hclone
          go_wp2_with fail
          go_meet
          case rel =>
            obtain ⟨r1, r2, r3, r4, r5⟩ := HE.out
            exact ⟨gs, A2, c2, rfl, r5, r3, by rw [hivs]; exact r2, r4, r1⟩
      case stepQE13 =>
        refine step_new rfl hzz rfl ?_
        refine Ap.goP hA ?_
        intro V29 gs hA2
        refine hK.out _ _ hA2.below (fun _ => ?_)
        clear hK K hA
        (try simp only [Act.put, List.setIfInBounds_toArray, List.set_cons_zero, List.set_cons_succ])
        have hA := hA2
        clear hA2
        refine wpAnyH_ready (rs := [2]) (by kernel_rfl) (by simp) (AllReadyH.cons (o := ?oo2_26) ?hoo2_26 (fun K hK => ?steponly26) AllReadyH.nil); (case hoo2_26 => (simp only [List.getElem?_toArray, List.getElem?_cons_zero, List.getElem?_cons_succ]; rfl))
        go_simp
        refine Calls.mono (hclone _ hA.below) ?_
        rintro e V39 ⟨A1, c1, rfl, hown1, hbc⟩
        have hA2 := hA.cloned hown1 hbc
        clear hown1 hbc
        refine hK.out _ _ hA2.below (fun _ => ?_)
        clear hK K hA
        (try simp only [Act.put, List.setIfInBounds_toArray, List.set_cons_zero, List.set_cons_succ])
        have hA := hA2
        clear hA2
        refine wpAnyH_ready (rs := [5]) (by kernel_rfl) (by simp) (AllReadyH.cons (o := ?oo5_27) ?hoo5_27 (fun K hK => ?steponly27) AllReadyH.nil); (case hoo5_27 => (simp only [List.getElem?_toArray, List.getElem?_cons_zero, List.getElem?_cons_succ]; rfl))
        refine step_app _ rfl (.tmp 24) (.tmp 26) 25 rfl (base := Z.heap.size) Try.underlying25 elemI rfl hA.own rfl (Sl.new (sz := 1) (n := 1) (hA.blk gb _ (List.Mem.tail _ (List.Mem.head _))).1 rfl) hone (by simp only [maxLen]; omega) (by omega) hA.ge ?_
        intro A2 c2 V49 hown1 hg1 hb1 hat1
        have hA2 := hA.app hown1 hg1 hb1 hat1
        clear hown1 hg1 hb1 hat1
        refine hK.out _ _ hA2.below (fun _ => ?_)
        clear hK K hA
        (try simp only [Act.put, List.setIfInBounds_toArray, List.set_cons_zero, List.set_cons_succ])
        have hA := hA2
        clear hA2
        refine wpAnyH_take (i := 12) (oi := ?oi_7) (v := ?v_7) ?ho_7 ?h1_7 ?h2_7 ?h3_7 ?hq_7 (Or.inl ⟨?hw_7, ?hy_7⟩) ?hs_7 ?rest_7; (case h2_7 => kernel_rfl); (case h3_7 => kernel_rfl); (case ho_7 => (simp only [List.getElem?_toArray, List.getElem?_cons_zero, List.getElem?_cons_succ]; rfl)); (case h1_7 => kernel_rfl); (case hq_7 => exact fun _ _ _ h => h); (case hw_7 => rfl); (case hy_7 => (intro w' hSw; refine exec_built (t := 37) (cs := #[.slice A2 (m + 1) c2, .int .i64 (yt + dn), .int .i64 yo]) (parts := #[(0, .tmp 27), (1, .tmp 31), (2, .tmp 33)]) ?_ ?_ w'; exact rfl; simp only [List.map_toArray, List.map_cons, List.map_nil]; exact built_wy _ _ _ _ _)); (case hs_7 => assumption); (try simp only [Act.put, List.setIfInBounds_toArray, List.set_cons_zero, List.set_cons_succ])
        refine wpAnyH_ready (rs := [14]) (by kernel_rfl) (by simp) (AllReadyH.cons (o := ?oo14_28) ?hoo14_28 (fun K hK => ?steponly28) AllReadyH.nil); (case hoo14_28 => (simp only [List.getElem?_toArray, List.getElem?_cons_zero, List.getElem?_cons_succ]; rfl))
        have hrow := hA.row (List.Mem.head _) #[.slice A2 (m + 1) c2, .int .i64 (yt + dn), .int .i64 yo]
        refine step_row rfl 37 (.tmp 13) (.tmp 34) rfl gs #[.slice A2 (m + 1) c2, .int .i64 (yt + dn), .int .i64 yo] rfl rfl _ wyz (hA.blk gs _ (List.Mem.head _)).1 hii rfl (by simp [Value.oneCell']) ?_
        obtain ⟨r1, r2, r3, r4, r5⟩ := hrow
        refine hK.out _ _ r1 (fun _ => ?_)
        clear hK K hA
        (try simp only [Act.put, List.setIfInBounds_toArray, List.set_cons_zero, List.set_cons_succ])
        refine wpAnyH_done (by kernel_rfl) ?_ _
        have HE := Lib.hid (And.intro r1 (And.intro r2 (And.intro r3 (And.intro r4 r5))))
        clear r1 r2 r3 r4 r5 hclone
        go_wp2_with fail
        go_meet
        case rel =>
          obtain ⟨r1, r2, r3, r4, r5⟩ := HE.out
          exact ⟨gs, A2, c2, rfl, r5, r3, by rw [hivs]; exact r2, r4, r1⟩
    case stepQB13 =>
      refine step_new rfl hzz rfl ?_
      refine Ap.goP hA ?_
      intro V19 gs hA2
      refine hK.out _ _ hA2.below (fun _ => ?_)
      clear hK K hA
      (try simp only [Act.put, List.setIfInBounds_toArray, List.set_cons_zero, List.set_cons_succ])
      have hA := hA2
      clear hA2
      refine wpAnyH_ready (rs := [2, 4]) (by kernel_rfl) (by simp) (AllReadyH.cons (o := ?oo2_29) ?hoo2_29 (fun K hK => ?stepQG2) (AllReadyH.cons (o := ?oo4_29) ?hoo4_29 (fun K hK => ?stepQG4) AllReadyH.nil)); (case hoo2_29 => (simp only [List.getElem?_toArray, List.getElem?_cons_zero, List.getElem?_cons_succ]; rfl)); (case hoo4_29 => (simp only [List.getElem?_toArray, List.getElem?_cons_zero, List.getElem?_cons_succ]; rfl))
      case stepQG2 =>
        go_simp
        refine Calls.mono (hclone _ hA.below) ?_
        rintro e V29 ⟨A1, c1, rfl, hown1, hbc⟩
        have hA2 := hA.cloned hown1 hbc
        clear hown1 hbc
        refine hK.out _ _ hA2.below (fun _ => ?_)
        clear hK K hA
        (try simp only [Act.put, List.setIfInBounds_toArray, List.set_cons_zero, List.set_cons_succ])
        have hA := hA2
        clear hA2
        refine wpAnyH_ready (rs := [4]) (by kernel_rfl) (by simp) (AllReadyH.cons (o := ?oo4_30) ?hoo4_30 (fun K hK => ?steponly30) AllReadyH.nil); (case hoo4_30 => (simp only [List.getElem?_toArray, List.getElem?_cons_zero, List.getElem?_cons_succ]; rfl))
        refine step_slice rfl 25 1 #[(0, .tmp 25)] rfl (by simp only [List.map_toArray, List.map_cons, List.map_nil]; exact ints1 t V29) ?_
        refine Ap.go1 hA ?_
        intro V39 gb hA2
        refine hK.out _ _ hA2.below (fun _ => ?_)
        clear hK K hA
        (try simp only [Act.put, List.setIfInBounds_toArray, List.set_cons_zero, List.set_cons_succ])
        have hA := hA2
        clear hA2
        refine wpAnyH_ready (rs := [5]) (by kernel_rfl) (by simp) (AllReadyH.cons (o := ?oo5_31) ?hoo5_31 (fun K hK => ?steponly31) AllReadyH.nil); (case hoo5_31 => (simp only [List.getElem?_toArray, List.getElem?_cons_zero, List.getElem?_cons_succ]; rfl))
        refine step_app _ rfl (.tmp 24) (.tmp 26) 25 rfl (base := Z.heap.size) Try.underlying25 elemI rfl hA.own rfl (Sl.new (sz := 1) (n := 1) (hA.blk gb _ (List.Mem.head _)).1 rfl) hone (by simp only [maxLen]; omega) (by omega) hA.ge ?_
        intro A2 c2 V49 hown1 hg1 hb1 hat1
        have hA2 := hA.app hown1 hg1 hb1 hat1
        clear hown1 hg1 hb1 hat1
        refine hK.out _ _ hA2.below (fun _ => ?_)
        clear hK K hA
        (try simp only [Act.put, List.setIfInBounds_toArray, List.set_cons_zero, List.set_cons_succ])
        have hA := hA2
        clear hA2
        refine wpAnyH_take (i := 12) (oi := ?oi_8) (v := ?v_8) ?ho_8 ?h1_8 ?h2_8 ?h3_8 ?hq_8 (Or.inl ⟨?hw_8, ?hy_8⟩) ?hs_8 ?rest_8; (case h2_8 => kernel_rfl); (case h3_8 => kernel_rfl); (case ho_8 => (simp only [List.getElem?_toArray, List.getElem?_cons_zero, List.getElem?_cons_succ]; rfl)); (case h1_8 => kernel_rfl); (case hq_8 => exact fun _ _ _ h => h); (case hw_8 => rfl); (case hy_8 => (intro w' hSw; refine exec_built (t := 37) (cs := #[.slice A2 (m + 1) c2, .int .i64 (yt + dn), .int .i64 yo]) (parts := #[(0, .tmp 27), (1, .tmp 31), (2, .tmp 33)]) ?_ ?_ w'; exact rfl; simp only [List.map_toArray, List.map_cons, List.map_nil]; exact built_wy _ _ _ _ _)); (case hs_8 => assumption); (try simp only [Act.put, List.setIfInBounds_toArray, List.set_cons_zero, List.set_cons_succ])
        refine wpAnyH_ready (rs := [14]) (by kernel_rfl) (by simp) (AllReadyH.cons (o := ?oo14_32) ?hoo14_32 (fun K hK => ?steponly32) AllReadyH.nil); (case hoo14_32 => (simp only [List.getElem?_toArray, List.getElem?_cons_zero, List.getElem?_cons_succ]; rfl))
        have hrow := hA.row (List.Mem.tail _ (List.Mem.head _)) #[.slice A2 (m + 1) c2, .int .i64 (yt + dn), .int .i64 yo]
        refine step_row rfl 37 (.tmp 13) (.tmp 34) rfl gs #[.slice A2 (m + 1) c2, .int .i64 (yt + dn), .int .i64 yo] rfl rfl _ wyz (hA.blk gs _ (List.Mem.tail _ (List.Mem.head _))).1 hii rfl (by simp [Value.oneCell']) ?_
        obtain ⟨r1, r2, r3, r4, r5⟩ := hrow
        refine hK.out _ _ r1 (fun _ => ?_)
        clear hK K hA
        (try simp only [Act.put, List.setIfInBounds_toArray, List.set_cons_zero, List.set_cons_succ])
        refine wpAnyH_done (by kernel_rfl) ?_ _
        have HE := Lib.hid (And.intro r1 (And.intro r2 (And.intro r3 (And.intro r4 r5))))
        clear r1 r2 r3 r4 r5 hclone
        go_wp2_with fail
        go_meet
        case rel =>
          obtain ⟨r1, r2, r3, r4, r5⟩ := HE.out
          exact ⟨gs, A2, c2, rfl, r5, r3, by rw [hivs]; exact r2, r4, r1⟩
      case stepQG4 =>
        refine step_slice rfl 25 1 #[(0, .tmp 25)] rfl (by simp only [List.map_toArray, List.map_cons, List.map_nil]; exact ints1 t V19) ?_
        refine Ap.go1 hA ?_
        intro V29 gb hA2
        refine hK.out _ _ hA2.below (fun _ => ?_)
        clear hK K hA
        (try simp only [Act.put, List.setIfInBounds_toArray, List.set_cons_zero, List.set_cons_succ])
        have hA := hA2
        clear hA2
        refine wpAnyH_ready (rs := [2]) (by kernel_rfl) (by simp) (AllReadyH.cons (o := ?oo2_33) ?hoo2_33 (fun K hK => ?steponly33) AllReadyH.nil); (case hoo2_33 => (simp only [List.getElem?_toArray, List.getElem?_cons_zero, List.getElem?_cons_succ]; rfl))
        go_simp
        refine Calls.mono (hclone _ hA.below) ?_
        rintro e V39 ⟨A1, c1, rfl, hown1, hbc⟩
        have hA2 := hA.cloned hown1 hbc
        clear hown1 hbc
        refine hK.out _ _ hA2.below (fun _ => ?_)
        clear hK K hA
        (try simp only [Act.put, List.setIfInBounds_toArray, List.set_cons_zero, List.set_cons_succ])
        have hA := hA2
        clear hA2
        refine wpAnyH_ready (rs := [5]) (by kernel_rfl) (by simp) (AllReadyH.cons (o := ?oo5_34) ?hoo5_34 (fun K hK => ?steponly34) AllReadyH.nil); (case hoo5_34 => (simp only [List.getElem?_toArray, List.getElem?_cons_zero, List.getElem?_cons_succ]; rfl))
        refine step_app _ rfl (.tmp 24) (.tmp 26) 25 rfl (base := Z.heap.size) Try.underlying25 elemI rfl hA.own rfl (Sl.new (sz := 1) (n := 1) (hA.blk gb _ (List.Mem.head _)).1 rfl) hone (by simp only [maxLen]; omega) (by omega) hA.ge ?_
        intro A2 c2 V49 hown1 hg1 hb1 hat1
        have hA2 := hA.app hown1 hg1 hb1 hat1
        clear hown1 hg1 hb1 hat1
        refine hK.out _ _ hA2.below (fun _ => ?_)
        clear hK K hA
        (try simp only [Act.put, List.setIfInBounds_toArray, List.set_cons_zero, List.set_cons_succ])
        have hA := hA2
        clear hA2
        refine wpAnyH_take (i := 12) (oi := ?oi_9) (v := ?v_9) ?ho_9 ?h1_9 ?h2_9 ?h3_9 ?hq_9 (Or.inl ⟨?hw_9, ?hy_9⟩) ?hs_9 ?rest_9; (case h2_9 => kernel_rfl); (case h3_9 => kernel_rfl); (case ho_9 => (simp only [List.getElem?_toArray, List.getElem?_cons_zero, List.getElem?_cons_succ]; rfl)); (case h1_9 => kernel_rfl); (case hq_9 => exact fun _ _ _ h => h); (case hw_9 => rfl); (case hy_9 => (intro w' hSw; refine exec_built (t := 37) (cs := #[.slice A2 (m + 1) c2, .int .i64 (yt + dn), .int .i64 yo]) (parts := #[(0, .tmp 27), (1, .tmp 31), (2, .tmp 33)]) ?_ ?_ w'; exact rfl; simp only [List.map_toArray, List.map_cons, List.map_nil]; exact built_wy _ _ _ _ _)); (case hs_9 => assumption); (try simp only [Act.put, List.setIfInBounds_toArray, List.set_cons_zero, List.set_cons_succ])
        refine wpAnyH_ready (rs := [14]) (by kernel_rfl) (by simp) (AllReadyH.cons (o := ?oo14_35) ?hoo14_35 (fun K hK => ?steponly35) AllReadyH.nil); (case hoo14_35 => (simp only [List.getElem?_toArray, List.getElem?_cons_zero, List.getElem?_cons_succ]; rfl))
        have hrow := hA.row (List.Mem.tail _ (List.Mem.head _)) #[.slice A2 (m + 1) c2, .int .i64 (yt + dn), .int .i64 yo]
        refine step_row rfl 37 (.tmp 13) (.tmp 34) rfl gs #[.slice A2 (m + 1) c2, .int .i64 (yt + dn), .int .i64 yo] rfl rfl _ wyz (hA.blk gs _ (List.Mem.tail _ (List.Mem.head _))).1 hii rfl (by simp [Value.oneCell']) ?_
        obtain ⟨r1, r2, r3, r4, r5⟩ := hrow
        refine hK.out _ _ r1 (fun _ => ?_)
        clear hK K hA
        (try simp only [Act.put, List.setIfInBounds_toArray, List.set_cons_zero, List.set_cons_succ])
        refine wpAnyH_done (by kernel_rfl) ?_ _
        have HE := Lib.hid (And.intro r1 (And.intro r2 (And.intro r3 (And.intro r4 r5))))
        clear r1 r2 r3 r4 r5 hclone
        go_wp2_with fail
        go_meet
        case rel =>
          obtain ⟨r1, r2, r3, r4, r5⟩ := HE.out
          exact ⟨gs, A2, c2, rfl, r5, r3, by rw [hivs]; exact r2, r4, r1⟩
  case rest =>
    obtain ⟨G, A2, c2, rfl, hG, hGb, hown, hne, hbX⟩ := hcut
    rename World => X
    obtain ⟨z8, hBZ, hwide⟩ := HZ.out
    have x8 := bBlk hbX (Array.getElem?_eq_some_iff.1 z8).1 z8
    have hBX := bNext hBZ hbX
    have hii : (Try.prog.info? 37).map (·.size) = some 3 := wy_size
    have hlen : (yn ++ [t]).length = m + 1 := by rw [List.length_append, HL.out]; rfl
    have gx : IntKind.i64.wrap (yo + 1) = yo + 1 := IntWalk.i64_in _ (by omega)
    have hGX := (Array.getElem?_eq_some_iff.1 hGb).1
    have v8 : V2.heap.size < Z.heap.size := by omega
    have cc2 : X.cell? ⟨G, 2, none⟩ = some (.int .i64 yo) := blk_cell hGb rfl
    have cf2 := blk_frozen hGb 2
    clear z8 hBZ k0 k1 k2
    cases dov
    · have gb2 := hGb
      have x82 := x8
      have hB2 := hBX
      have hown2 := hown
      clear hGb x8 hBX hown
      obtain ⟨V9, hV9⟩ : ∃ q, X.setRow V2.heap.size #[.slice A2 (m + 1) c2, .int .i64 (yt + dn), .int .i64 yo] = q := ⟨_, rfl⟩
      have b9 : V9.heap[V2.heap.size]? = some (.cells #[.slice A2 (m + 1) c2, .int .i64 (yt + dn), .int .i64 yo] 37) := by rw [← hV9]; exact setRow_heap _ _ _ _ _ _ x82
      have hB9 : Below w.heap.size w V9 := by rw [← hV9]; exact bSetRow hB2 (by omega) _
      have hown9 : V9.ownsRow w.heap.size 3 1 (.slice A2 (m + 1) c2) (m + 1) (ivs (yn ++ [t])) := by
        rw [← hV9]
        refine own_base (base := Z.heap.size) ⟨hown2.1, ?_⟩ (by omega)
        rcases hown2.2 with e | ⟨g, cap, cur, e, h2, h3, h4⟩
        · exact .inl e
        · exact .inr ⟨g, cap, cur, e, h2, (setRow_other _ _ _ _ (by omega)).trans h3, h4⟩
      have hlv : (Try.prog.info? 37).map (·.size) = some (#[Value.slice A2 (m + 1) c2, .int .i64 (yt + dn), .int .i64 yo] : Array Value).size := hii
      have HF := Lib.hid (And.intro hB9 (And.intro hown9 hlen))
      clear hB9 hown9 hlen hB2 hown2 hbX
      go_upto_region 5 with (fail)
      refine wp_region_lit ?_
      refine wpList_load_row rfl 37 (.tmp 13) rfl _ rfl _ #[.slice A2 (m + 1) c2, .int .i64 (yt + dn), .int .i64 yo] (0, 0) _ gb2 Try.underlying37 rfl hlv ?_
      (try simp only [Act.put, List.setIfInBounds_toArray, List.set_cons_zero, List.set_cons_succ])
      iterate 3 (first | go_guarded | go_step)
      (try simp only [Act.put, List.setIfInBounds_toArray, List.set_cons_zero, List.set_cons_succ])
      refine wpList_store_row rfl 37 (.tmp 8) (.tmp 40) rfl _ #[.slice A2 (m + 1) c2, .int .i64 (yt + dn), .int .i64 yo] rfl rfl _ zw x82 hii (by rw [hz3]; rfl) (by simp [Value.oneCell']) ?_
      (try simp only [Act.put, List.setIfInBounds_toArray, List.set_cons_zero, List.set_cons_succ])
      rw [hV9]
      clear hV9
      go_wp2_with fail
      have hld := run_loadVar_row (P := Try.prog) V9 _ _ 37 _ _ _ b9 Try.underlying37 rfl hlv
      refine bodyPost_ret (by simp [results, Try.results36, Act.put, asAddr, Result.andThen, hld]; try rfl) rfl ?_
      obtain ⟨hB9, hown9, hlen⟩ := HF.out
      rw [HW.out]
      refine ⟨A2, c2, ?_, ?_, hB9⟩
      · unfold wyv
        simp [hlen]
        try trivial
      · simp only [hlen]
        exact hown9
    · obtain ⟨X2, hX2⟩ : ∃ q, X.setCell ⟨G, 2, none⟩ (.int .i64 (yo + 1)) = q := ⟨_, rfl⟩
      have gb2 : X2.heap[G]? = some (.cells #[.slice A2 (m + 1) c2, .int .i64 (yt + dn), .int .i64 (yo + 1)] 37) := by rw [← hX2]; exact blk_set hGb 2 _
      have x82 : X2.heap[V2.heap.size]? = some (.cells zw 37) := by rw [← hX2]; exact blk_far x8 _ (by show V2.heap.size ≠ G; omega)
      have hB2 : Below w.heap.size w X2 := by rw [← hX2]; exact hBX.setCell (p := ⟨G, 2, none⟩) (by show w.heap.size ≤ G; omega) _
      have hown2 : X2.ownsRow Z.heap.size 3 1 (.slice A2 (m + 1) c2) (m + 1) (ivs (yn ++ [t])) := by
        rw [← hX2]
        refine ⟨hown.1, ?_⟩
        rcases hown.2 with e | ⟨g, cap, cur, e, h2, h3, h4⟩
        · exact .inl e
        · exact .inr ⟨g, cap, cur, e, h2, blk_far h3 (p := ⟨G, 2, none⟩) _ (fun e2 => hne (by rw [e, e2]; rfl)), h4⟩
      clear hGb x8 hBX hown
      obtain ⟨V9, hV9⟩ : ∃ q, X2.setRow V2.heap.size #[.slice A2 (m + 1) c2, .int .i64 (yt + dn), .int .i64 (yo + 1)] = q := ⟨_, rfl⟩
      have b9 : V9.heap[V2.heap.size]? = some (.cells #[.slice A2 (m + 1) c2, .int .i64 (yt + dn), .int .i64 (yo + 1)] 37) := by rw [← hV9]; exact setRow_heap _ _ _ _ _ _ x82
      have hB9 : Below w.heap.size w V9 := by rw [← hV9]; exact bSetRow hB2 (by omega) _
      have hown9 : V9.ownsRow w.heap.size 3 1 (.slice A2 (m + 1) c2) (m + 1) (ivs (yn ++ [t])) := by
        rw [← hV9]
        refine own_base (base := Z.heap.size) ⟨hown2.1, ?_⟩ (by omega)
        rcases hown2.2 with e | ⟨g, cap, cur, e, h2, h3, h4⟩
        · exact .inl e
        · exact .inr ⟨g, cap, cur, e, h2, (setRow_other _ _ _ _ (by omega)).trans h3, h4⟩
      have hlv : (Try.prog.info? 37).map (·.size) = some (#[Value.slice A2 (m + 1) c2, .int .i64 (yt + dn), .int .i64 (yo + 1)] : Array Value).size := hii
      have HF := Lib.hid (And.intro hB9 (And.intro hown9 hlen))
      clear hB9 hown9 hlen hB2 hown2 hbX
      go_upto_region 5 with (fail)
      refine wp_region_lit ?_
      refine wpList_load_row rfl 37 (.tmp 13) rfl _ rfl _ #[.slice A2 (m + 1) c2, .int .i64 (yt + dn), .int .i64 (yo + 1)] (0, 0) _ gb2 Try.underlying37 rfl hlv ?_
      (try simp only [Act.put, List.setIfInBounds_toArray, List.set_cons_zero, List.set_cons_succ])
      iterate 3 (first | go_guarded | go_step)
      (try simp only [Act.put, List.setIfInBounds_toArray, List.set_cons_zero, List.set_cons_succ])
      refine wpList_store_row rfl 37 (.tmp 8) (.tmp 40) rfl _ #[.slice A2 (m + 1) c2, .int .i64 (yt + dn), .int .i64 (yo + 1)] rfl rfl _ zw x82 hii (by rw [hz3]; rfl) (by simp [Value.oneCell']) ?_
      (try simp only [Act.put, List.setIfInBounds_toArray, List.set_cons_zero, List.set_cons_succ])
      rw [hV9]
      clear hV9
      go_wp2_with fail
      have hld := run_loadVar_row (P := Try.prog) V9 _ _ 37 _ _ _ b9 Try.underlying37 rfl hlv
      refine bodyPost_ret (by simp [results, Try.results36, Act.put, asAddr, Result.andThen, hld]; try rfl) rfl ?_
      obtain ⟨hB9, hown9, hlen⟩ := HF.out
      rw [HW.out]
      refine ⟨A2, c2, ?_, ?_, hB9⟩
      · unfold wyv
        simp [hlen]
        try trivial
      · simp only [hlen]
        exact hown9
end Go.Proofs.Ytnojikbecohhfaa
