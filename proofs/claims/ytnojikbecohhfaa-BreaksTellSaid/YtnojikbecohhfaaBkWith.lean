/- The walk over a paragraph's with (s10/bkwith.py writes it). -/
import Derived.Test.YtnojikbecohhfaaBkLin2
import Derived.Test.YtnojikbecohhfaaBkRep
import Derived.Test.YtnojikbecohhfaaAp
import Derived.Deep.CutRange
namespace Go.Proofs.Ytnojikbecohhfaa
set_option linter.unusedSimpArgs false
set_option linter.unusedVariables false
open Go.RowKit Go.Sort

theorem Ap.cloned {Z V U : World} {e : TypeId} {sz n : Nat} {v : Value} {xs : List Value} {G : List (Nat × Obj)} (h : Ap Z V e sz (.slice none 0 0) 0 [] G) (hown : U.ownsRow V.heap.size e sz v n xs) (hb : Below V.heap.size V U) : Ap Z U e sz v n xs G := by
  refine ⟨h.below.trans (hb.mono h.ge), own_base hown h.ge, fun g o hm => ?_⟩
  obtain ⟨h1, h2, h3⟩ := h.blk g o hm
  have hlt := (Array.getElem?_eq_some_iff.1 h1).1
  exact ⟨bBlk hb hlt h1, fun e => by have := own_ge hown g e; omega, h3⟩
def wyz : Array Value := #[.slice none 0 0, .int .i64 0, .int .i64 0]
theorem wyZ : ZeroIs Try.prog 37 wyz := by unfold ZeroIs; kernel_rfl
theorem wy_size : (Try.prog.info? 37).map (·.size) = some 3 := by kernel_rfl
theorem ints1 (a : Int) (w : World) : (Instr.buildSlice 25 1 #[(0, .int .i64 a)]).run Try.prog w = .ok (.slice (some ⟨w.heap.size, 0, none⟩) 1 1) (w.alloc (.cells #[.int .i64 a] 3)) := by
  go_simp
theorem built_wy (A : Option Addr) (n c : Nat) (t o : Int) : Try.prog.built 37 [(0, .slice A n c), (1, .int .i64 t), (2, .int .i64 o)] = some #[.slice A n c, .int .i64 t, .int .i64 o] := by kernel_rfl
def WithP (w : World) (r : WY) (may : Bool) (e : Ending) (w' : World) : Prop := ∃ A c, e = .returned (.tuple #[wyv A r.ends.length c r.total r.over, .bool may]) ∧ w'.ownsRow w.heap.size 3 1 (.slice A r.ends.length c) r.ends.length (ivs r.ends) ∧ Below w.heap.size w w'
attribute [-go_sem] Builtin.append_
attribute [-go_sem] Instr.buildSlice
set_option maxHeartbeats 16000000 in
set_option maxRecDepth 100000 in
theorem with_any {A A' : Option Addr} {n c m c' : Nat} {l : List It} {wd tl : Int} {y : WY} (f t : Int) (hn : n ≤ 1000000) (hwd : 0 ≤ wd ∧ wd ≤ 10000) (w : World) (h : Sl w w.heap.size 6 A n (encs l)) (hy : IvAt w w.heap.size A' m c' y.ends) (hm : m ≤ 100000)
    (hyt : 0 ≤ y.total ∧ y.total ≤ 1000000000000000000) (hyo : 0 ≤ y.over ∧ y.over ≤ 1000000000) :
    Calls Try.prog 36 #[pgv A n c wd tl, wyv A' m c' y.total y.over, .int .i64 f, .int .i64 t] w (WithP w (withW l wd tl y f t) (lineD l wd tl f t).may) := by
  have hd := lineD_bd l wd tl f t
  have hyl := hy.len
  obtain ⟨V1, hV1, y4, hb1⟩ := pgbox w A n c wd tl
  obtain ⟨V2, hV2⟩ : ∃ q, V1.alloc (.cells #[.slice A' m c', .int .i64 y.total, .int .i64 y.over] 37) = q := ⟨_, rfl⟩
  have y5 : V2.heap[V1.heap.size]? = some (.cells #[.slice A' m c', .int .i64 y.total, .int .i64 y.over] 37) := by rw [← hV2]; exact heap_alloc_new _ _
  have hb2 : Below V1.heap.size V1 V2 := by rw [← hV2]; exact (Below.refl _ _).alloc (Nat.le_refl _) _
  obtain ⟨V3, hV3⟩ : ∃ q, V2.alloc (.cells wyz 37) = q := ⟨_, rfl⟩
  have y8 : V3.heap[V2.heap.size]? = some (.cells wyz 37) := by rw [← hV3]; exact heap_alloc_new _ _
  have hb3 : Below V2.heap.size V2 V3 := by rw [← hV3]; exact (Below.refl _ _).alloc (Nat.le_refl _) _
  have hb12 := bNext hb1 hb2
  have hb13 := bNext hb12 hb3
  have y4' := bBlk (hb2.trans (hb3.mono hb2.size)) (Array.getElem?_eq_some_iff.1 y4).1 y4
  have y5' := bBlk hb3 (Array.getElem?_eq_some_iff.1 y5).1 y5
  have hpl := pline_any (c := c) (wd := wd) (tl := tl) f t hn hwd V3 (h.next hb13)
  unfold pgv at hpl ⊢
  unfold wyv
  obtain ⟨D, hD⟩ : ∃ D, lineD l wd tl f t = D := ⟨_, rfl⟩
  have hwW : withW l wd tl y f t = ⟨y.ends ++ [t], y.total + D.n, y.over + (if D.over then 1 else 0)⟩ := by unfold withW; rw [hD]
  obtain ⟨RR, hRR⟩ : ∃ q, withW l wd tl y f t = q := ⟨_, rfl⟩
  rw [hRR] at hwW
  rw [hRR]
  have HW := Lib.hid hwW
  rw [hD] at hpl hd ⊢
  obtain ⟨yn, yt, yo⟩ := y
  simp only at hyt hyo hy hyl y5 y5' hV2 ⊢
  obtain ⟨zw, hzw⟩ : ∃ q, wyz = q := ⟨_, rfl⟩
  have hwz := wyZ
  have hz3 : zw.size = 3 := by rw [← hzw]; rfl
  rw [hzw] at hwz y8 hV3
  have s1 := hb1.size
  have s2 := hb2.size
  have s3 := hb3.size
  have l4 := (Array.getElem?_eq_some_iff.1 y4).1
  have l5 := (Array.getElem?_eq_some_iff.1 y5).1
  have l8 := (Array.getElem?_eq_some_iff.1 y8).1
  have HH := Lib.hid (And.intro hy (And.intro hb13 (And.intro y4' (And.intro y5' y8))))
  have HL := Lib.hid hyl
  clear h hy hyl hb1 hb2 hb3 hb12 hb13 y4 y5 y8 hD hwW hRR hzw y4' y5'
  go_enter Try.func36, Try.ntmps36
  go_upto_region 1 with (first | (refine wpList_new rfl hwz rfl ?_) | fail)
  try rw [hV1]
  try rw [hV2]
  try rw [hV3]
  clear hwz hV1 hV2 hV3
  obtain ⟨hy, hb13, y4', y5', y8⟩ := HH.out
  have hpi : (Try.prog.info? 59).map (·.size) = some (#[Value.slice A n c, .int .i64 wd, .int .i64 tl] : Array Value).size := by
    show _ = some 3
    kernel_rfl
  refine wp_region_lit ?_
  refine wpList_load_row rfl 59 (.tmp 4) rfl _ rfl _ #[.slice A n c, .int .i64 wd, .int .i64 tl] (0, 0) _ y4' Try.underlying59 rfl hpi ?_
  (try simp only [Act.put, List.setIfInBounds_toArray, List.set_cons_zero, List.set_cons_succ])
  clear hy hb13 y4' y5' y8 hpi
  go_wp2_with fail
  refine Calls.mono hpl ?_
  rintro e Z ⟨rfl, hbZ⟩
  clear hpl
  obtain ⟨hy, hb13, y4', y5', y8⟩ := HH.out
  have z5 := bBlk hbZ (Array.getElem?_eq_some_iff.1 y5').1 y5'
  have z8 := bBlk hbZ (Array.getElem?_eq_some_iff.1 y8).1 y8
  have hBZ := bNext hb13 hbZ
  have hyZ := hy.nxt hBZ
  have sZ := hbZ.size
  have hclone := fun W (hb : Below Z.heap.size Z W) => clone_any W (hyZ.nxt hb) (by omega)
  have lz5 := (Array.getElem?_eq_some_iff.1 z5).1
  have k0 : Z.cell? ⟨V1.heap.size, 0, none⟩ = some (.slice A' m c') := blk_cell z5 rfl
  have k1 : Z.cell? ⟨V1.heap.size, 1, none⟩ = some (.int .i64 yt) := blk_cell z5 rfl
  have k2 : Z.cell? ⟨V1.heap.size, 2, none⟩ = some (.int .i64 yo) := blk_cell z5 rfl
  have HZ := Lib.hid (And.intro z8 (And.intro hBZ hy.wide))
  clear hy hb13 y4' y5' y8 hbZ z5 z8 hBZ hyZ HH
  have g1 : IntKind.i64.wrap (yt + D.n) = yt + D.n := IntWalk.i64_in _ (by omega)
  obtain ⟨dn, dov, dmay⟩ := D
  simp only at g1 hd ⊢
  go_upto_region 2 with (fail)
  go_cut [13] from 22 to 34 (fun s13 wx => ∃ G A2 c2, s13 = .pointer (some ⟨G, 0, none⟩) ∧ Z.heap.size ≤ G ∧ wx.heap[G]? = some (.cells #[.slice A2 (m + 1) c2, .int .i64 (yt + dn), .int .i64 yo] 37) ∧ wx.ownsRow Z.heap.size 3 1 (.slice A2 (m + 1) c2) (m + 1) (ivs (yn ++ [t])) ∧ (Value.slice A2 (m + 1) c2).ownBlock ≠ some G ∧ Below Z.heap.size Z wx)
  case first =>
    let S : World → Prop := fun w' => Below Z.heap.size Z w'
    have q0 : ∀ w', S w' → w'.cell? ⟨V1.heap.size, 0, none⟩ = some (.slice A' m c') := fun w' h => (Below.cell (show Below Z.heap.size Z w' from h) (p := ⟨V1.heap.size, 0, none⟩) lz5).trans k0
    have q1 : ∀ w', S w' → w'.cell? ⟨V1.heap.size, 1, none⟩ = some (.int .i64 yt) := fun w' h => (Below.cell (show Below Z.heap.size Z w' from h) (p := ⟨V1.heap.size, 1, none⟩) lz5).trans k1
    have q2 : ∀ w', S w' → w'.cell? ⟨V1.heap.size, 2, none⟩ = some (.int .i64 yo) := fun w' h => (Below.cell (show Below Z.heap.size Z w' from h) (p := ⟨V1.heap.size, 2, none⟩) lz5).trans k2
    have hS0 : S Z.drew := (Below.refl _ _).drew
    have hA : Ap Z Z.drew 3 1 (.slice none 0 0) 0 [] [] := Ap.start Z _ _
    have hii : (Try.prog.info? 37).map (·.size) = some 3 := wy_size
    have hzz := wyZ
    have hivs := ivs_append yn [t]
    clear k0 k1 k2 HZ
    refine wp_region_held (S := S) (by kernel_rfl) ?_
    change wpAnyH _ _ _ _ S _ _ _ Z.drew
    change At 0 _
    iterate 2 (first | (apply tkA; (case hi => (simp only [List.getElem?_toArray, List.getElem?_cons_zero, List.getElem?_cons_succ]; rfl)); (case hw => rfl); (case hy => (intro w' hSw; have p0 := q0 w' hSw; (try simp only [S] at hSw); go_simp; (try with_reducible rfl))); (case hs => kernel_rfl); (case hf => kernel_rfl); (case hr => kernel_rfl); (case hQ => exact fun _ _ _ h => h); (case hS => assumption); (try simp only [Act.put, List.setIfInBounds_toArray, List.set_cons_zero, List.set_cons_succ, Nat.reduceAdd])) | (apply skA; (case hi => (simp only [List.getElem?_toArray, List.getElem?_cons_zero, List.getElem?_cons_succ]; rfl)); (case hw => rfl); (case hs => kernel_rfl); (case hf => kernel_rfl); (case hr => kernel_rfl); (case hQ => exact fun _ _ _ h => h); (case hS => assumption); (try simp only [Act.put, List.setIfInBounds_toArray, List.set_cons_zero, List.set_cons_succ, Nat.reduceAdd])))
    change wpAnyH _ _ _ _ _ _ _ _ _
    refine wpAnyH_take (i := 3) (oi := ?oi_77) (v := ?v_77) ?ho_77 ?h1_77 ?h2_77 ?h3_77 ?hq_77 (Or.inl ⟨?hw_77, ?hy_77⟩) ?hs_77 ?rest_77; (case h2_77 => kernel_rfl); (case h3_77 => kernel_rfl); (case ho_77 => (simp only [List.getElem?_toArray, List.getElem?_cons_zero, List.getElem?_cons_succ]; rfl)); (case h1_77 => kernel_rfl); (case hq_77 => exact fun _ _ _ h => h); (case hw_77 => rfl); (case hy_77 => (intro w' hSw; (try simp only [S] at hSw); go_simp; (try with_reducible rfl))); (case hs_77 => assumption); (try simp only [Act.put, List.setIfInBounds_toArray, List.set_cons_zero, List.set_cons_succ])
    change At 6 _
    iterate 6 (first | (apply tkA; (case hi => (simp only [List.getElem?_toArray, List.getElem?_cons_zero, List.getElem?_cons_succ]; rfl)); (case hw => rfl); (case hy => (intro w' hSw; have p1 := q1 w' hSw; have p2 := q2 w' hSw; (try simp only [S] at hSw); go_simp; (try with_reducible rfl))); (case hs => kernel_rfl); (case hf => kernel_rfl); (case hr => kernel_rfl); (case hQ => exact fun _ _ _ h => h); (case hS => assumption); (try simp only [Act.put, List.setIfInBounds_toArray, List.set_cons_zero, List.set_cons_succ, Nat.reduceAdd])) | (apply skA; (case hi => (simp only [List.getElem?_toArray, List.getElem?_cons_zero, List.getElem?_cons_succ]; rfl)); (case hw => rfl); (case hs => kernel_rfl); (case hf => kernel_rfl); (case hr => kernel_rfl); (case hQ => exact fun _ _ _ h => h); (case hS => assumption); (try simp only [Act.put, List.setIfInBounds_toArray, List.set_cons_zero, List.set_cons_succ, Nat.reduceAdd])))
    change wpAnyH _ _ _ _ _ _ _ _ _
    clear q0 q1 q2
    have hone : ∀ u ∈ [Value.int .i64 t], u.oneCell' = true := fun u hu => by
      have : u = Value.int .i64 t := by simpa using hu
      rw [this]; rfl
    refine wpAnyH_ready (rs := [2, 4, 13]) (by kernel_rfl) (by simp) (AllReadyH.cons (o := ?oo2_86) ?hoo2_86 (fun K hK => ?stepQB2) (AllReadyH.cons (o := ?oo4_86) ?hoo4_86 (fun K hK => ?stepQB4) (AllReadyH.cons (o := ?oo13_86) ?hoo13_86 (fun K hK => ?stepQB13) AllReadyH.nil))); (case hoo2_86 => (simp only [List.getElem?_toArray, List.getElem?_cons_zero, List.getElem?_cons_succ]; rfl)); (case hoo4_86 => (simp only [List.getElem?_toArray, List.getElem?_cons_zero, List.getElem?_cons_succ]; rfl)); (case hoo13_86 => (simp only [List.getElem?_toArray, List.getElem?_cons_zero, List.getElem?_cons_succ]; rfl))
    case stepQB2 =>
      go_simp
      refine Calls.mono (hclone _ hA.below) ?_
      rintro e V19 ⟨A1, c1, rfl, hown1, hbc⟩
      have hA2 := hA.cloned hown1 hbc
      clear hown1 hbc
      refine hK.out _ _ hA2.below (fun _ => ?_)
      clear hK K hA
      (try simp only [Act.put, List.setIfInBounds_toArray, List.set_cons_zero, List.set_cons_succ])
      have hA := hA2
      clear hA2
      refine wpAnyH_ready (rs := [4, 13]) (by kernel_rfl) (by simp) (AllReadyH.cons (o := ?oo4_87) ?hoo4_87 (fun K hK => ?stepQC4) (AllReadyH.cons (o := ?oo13_87) ?hoo13_87 (fun K hK => ?stepQC13) AllReadyH.nil)); (case hoo4_87 => (simp only [List.getElem?_toArray, List.getElem?_cons_zero, List.getElem?_cons_succ]; rfl)); (case hoo13_87 => (simp only [List.getElem?_toArray, List.getElem?_cons_zero, List.getElem?_cons_succ]; rfl))
      case stepQC4 =>
        refine step_slice rfl 25 1 #[(0, .tmp 25)] rfl (by simp only [List.map_toArray, List.map_cons, List.map_nil]; exact ints1 t V19) ?_
        refine Ap.go1 hA ?_
        intro V29 gb hA2
        refine hK.out _ _ hA2.below (fun _ => ?_)
        clear hK K hA
        (try simp only [Act.put, List.setIfInBounds_toArray, List.set_cons_zero, List.set_cons_succ])
        have hA := hA2
        clear hA2
        refine wpAnyH_ready (rs := [5, 13]) (by kernel_rfl) (by simp) (AllReadyH.cons (o := ?oo5_88) ?hoo5_88 (fun K hK => ?stepQD5) (AllReadyH.cons (o := ?oo13_88) ?hoo13_88 (fun K hK => ?stepQD13) AllReadyH.nil)); (case hoo5_88 => (simp only [List.getElem?_toArray, List.getElem?_cons_zero, List.getElem?_cons_succ]; rfl)); (case hoo13_88 => (simp only [List.getElem?_toArray, List.getElem?_cons_zero, List.getElem?_cons_succ]; rfl))
        case stepQD5 =>
          refine step_app _ rfl (.tmp 24) (.tmp 26) 25 rfl (base := Z.heap.size) Try.underlying25 elemI rfl hA.own rfl (Sl.new (sz := 1) (n := 1) (hA.blk gb _ (List.Mem.head _)).1 rfl) hone (by simp only [maxLen]; omega) (by omega) hA.ge ?_
          intro A2 c2 V39 hown1 hg1 hb1 hat1
          have hA2 := hA.app hown1 hg1 hb1 hat1
          clear hown1 hg1 hb1 hat1
          refine hK.out _ _ hA2.below (fun _ => ?_)
          clear hK K hA
          (try simp only [Act.put, List.setIfInBounds_toArray, List.set_cons_zero, List.set_cons_succ])
          have hA := hA2
          clear hA2
          refine wpAnyH_take (i := 12) (oi := ?oi_78) (v := ?v_78) ?ho_78 ?h1_78 ?h2_78 ?h3_78 ?hq_78 (Or.inl ⟨?hw_78, ?hy_78⟩) ?hs_78 ?rest_78; (case h2_78 => kernel_rfl); (case h3_78 => kernel_rfl); (case ho_78 => (simp only [List.getElem?_toArray, List.getElem?_cons_zero, List.getElem?_cons_succ]; rfl)); (case h1_78 => kernel_rfl); (case hq_78 => exact fun _ _ _ h => h); (case hw_78 => rfl); (case hy_78 => (intro w' hSw; refine exec_built (t := 37) (cs := #[.slice A2 (m + 1) c2, .int .i64 (yt + dn), .int .i64 yo]) (parts := #[(0, .tmp 27), (1, .tmp 31), (2, .tmp 33)]) ?_ ?_ w'; exact rfl; simp only [List.map_toArray, List.map_cons, List.map_nil]; exact built_wy _ _ _ _ _)); (case hs_78 => assumption); (try simp only [Act.put, List.setIfInBounds_toArray, List.set_cons_zero, List.set_cons_succ])
          refine wpAnyH_ready (rs := [13]) (by kernel_rfl) (by simp) (AllReadyH.cons (o := ?oo13_89) ?hoo13_89 (fun K hK => ?steponly89) AllReadyH.nil); (case hoo13_89 => (simp only [List.getElem?_toArray, List.getElem?_cons_zero, List.getElem?_cons_succ]; rfl))
          refine step_new rfl hzz rfl ?_
          refine Ap.goP hA ?_
          intro V49 gs hA2
          refine hK.out _ _ hA2.below (fun _ => ?_)
          clear hK K hA
          (try simp only [Act.put, List.setIfInBounds_toArray, List.set_cons_zero, List.set_cons_succ])
          have hA := hA2
          clear hA2
          refine wpAnyH_ready (rs := [14]) (by kernel_rfl) (by simp) (AllReadyH.cons (o := ?oo14_90) ?hoo14_90 (fun K hK => ?steponly90) AllReadyH.nil); (case hoo14_90 => (simp only [List.getElem?_toArray, List.getElem?_cons_zero, List.getElem?_cons_succ]; rfl))
          have hrow := hA.row (List.Mem.head _) #[.slice A2 (m + 1) c2, .int .i64 (yt + dn), .int .i64 yo]
          refine step_row rfl 37 (.tmp 13) (.tmp 34) rfl gs #[.slice A2 (m + 1) c2, .int .i64 (yt + dn), .int .i64 yo] rfl rfl _ wyz (hA.blk gs _ (List.Mem.head _)).1 hii rfl (by simp [Value.oneCell']) ?_
          obtain ⟨r1, r2, r3, r4, r5⟩ := hrow
          refine hK.out _ _ r1 (fun _ => ?_)
          clear hK K hA
          (try simp only [Act.put, List.setIfInBounds_toArray, List.set_cons_zero, List.set_cons_succ])
          refine wpAnyH_done (by kernel_rfl) ?_ _
          have HE := Lib.hid (And.intro r1 (And.intro r2 (And.intro r3 (And.intro r4 r5))))
          clear r1 r2 r3 r4 r5 hclone
          go_wp2_with fail
          go_meet
          case rel =>
            obtain ⟨r1, r2, r3, r4, r5⟩ := HE.out
            exact ⟨gs, A2, c2, rfl, r5, r3, by rw [hivs]; exact r2, r4, r1⟩
        case stepQD13 =>
          refine step_new rfl hzz rfl ?_
          refine Ap.goP hA ?_
          intro V39 gs hA2
          refine hK.out _ _ hA2.below (fun _ => ?_)
          clear hK K hA
          (try simp only [Act.put, List.setIfInBounds_toArray, List.set_cons_zero, List.set_cons_succ])
          have hA := hA2
          clear hA2
          refine wpAnyH_ready (rs := [5]) (by kernel_rfl) (by simp) (AllReadyH.cons (o := ?oo5_91) ?hoo5_91 (fun K hK => ?steponly91) AllReadyH.nil); (case hoo5_91 => (simp only [List.getElem?_toArray, List.getElem?_cons_zero, List.getElem?_cons_succ]; rfl))
          refine step_app _ rfl (.tmp 24) (.tmp 26) 25 rfl (base := Z.heap.size) Try.underlying25 elemI rfl hA.own rfl (Sl.new (sz := 1) (n := 1) (hA.blk gb _ (List.Mem.tail _ (List.Mem.head _))).1 rfl) hone (by simp only [maxLen]; omega) (by omega) hA.ge ?_
          intro A2 c2 V49 hown1 hg1 hb1 hat1
          have hA2 := hA.app hown1 hg1 hb1 hat1
          clear hown1 hg1 hb1 hat1
          refine hK.out _ _ hA2.below (fun _ => ?_)
          clear hK K hA
          (try simp only [Act.put, List.setIfInBounds_toArray, List.set_cons_zero, List.set_cons_succ])
          have hA := hA2
          clear hA2
          refine wpAnyH_take (i := 12) (oi := ?oi_79) (v := ?v_79) ?ho_79 ?h1_79 ?h2_79 ?h3_79 ?hq_79 (Or.inl ⟨?hw_79, ?hy_79⟩) ?hs_79 ?rest_79; (case h2_79 => kernel_rfl); (case h3_79 => kernel_rfl); (case ho_79 => (simp only [List.getElem?_toArray, List.getElem?_cons_zero, List.getElem?_cons_succ]; rfl)); (case h1_79 => kernel_rfl); (case hq_79 => exact fun _ _ _ h => h); (case hw_79 => rfl); (case hy_79 => (intro w' hSw; refine exec_built (t := 37) (cs := #[.slice A2 (m + 1) c2, .int .i64 (yt + dn), .int .i64 yo]) (parts := #[(0, .tmp 27), (1, .tmp 31), (2, .tmp 33)]) ?_ ?_ w'; exact rfl; simp only [List.map_toArray, List.map_cons, List.map_nil]; exact built_wy _ _ _ _ _)); (case hs_79 => assumption); (try simp only [Act.put, List.setIfInBounds_toArray, List.set_cons_zero, List.set_cons_succ])
          refine wpAnyH_ready (rs := [14]) (by kernel_rfl) (by simp) (AllReadyH.cons (o := ?oo14_92) ?hoo14_92 (fun K hK => ?steponly92) AllReadyH.nil); (case hoo14_92 => (simp only [List.getElem?_toArray, List.getElem?_cons_zero, List.getElem?_cons_succ]; rfl))
          have hrow := hA.row (List.Mem.head _) #[.slice A2 (m + 1) c2, .int .i64 (yt + dn), .int .i64 yo]
          refine step_row rfl 37 (.tmp 13) (.tmp 34) rfl gs #[.slice A2 (m + 1) c2, .int .i64 (yt + dn), .int .i64 yo] rfl rfl _ wyz (hA.blk gs _ (List.Mem.head _)).1 hii rfl (by simp [Value.oneCell']) ?_
          obtain ⟨r1, r2, r3, r4, r5⟩ := hrow
          refine hK.out _ _ r1 (fun _ => ?_)
          clear hK K hA
          (try simp only [Act.put, List.setIfInBounds_toArray, List.set_cons_zero, List.set_cons_succ])
          refine wpAnyH_done (by kernel_rfl) ?_ _
          have HE := Lib.hid (And.intro r1 (And.intro r2 (And.intro r3 (And.intro r4 r5))))
          clear r1 r2 r3 r4 r5 hclone
          go_wp2_with fail
          go_meet
          case rel =>
            obtain ⟨r1, r2, r3, r4, r5⟩ := HE.out
            exact ⟨gs, A2, c2, rfl, r5, r3, by rw [hivs]; exact r2, r4, r1⟩
      case stepQC13 =>
        refine step_new rfl hzz rfl ?_
        refine Ap.goP hA ?_
        intro V29 gs hA2
        refine hK.out _ _ hA2.below (fun _ => ?_)
        clear hK K hA
        (try simp only [Act.put, List.setIfInBounds_toArray, List.set_cons_zero, List.set_cons_succ])
        have hA := hA2
        clear hA2
        refine wpAnyH_ready (rs := [4]) (by kernel_rfl) (by simp) (AllReadyH.cons (o := ?oo4_93) ?hoo4_93 (fun K hK => ?steponly93) AllReadyH.nil); (case hoo4_93 => (simp only [List.getElem?_toArray, List.getElem?_cons_zero, List.getElem?_cons_succ]; rfl))
        refine step_slice rfl 25 1 #[(0, .tmp 25)] rfl (by simp only [List.map_toArray, List.map_cons, List.map_nil]; exact ints1 t V29) ?_
        refine Ap.go1 hA ?_
        intro V39 gb hA2
        refine hK.out _ _ hA2.below (fun _ => ?_)
        clear hK K hA
        (try simp only [Act.put, List.setIfInBounds_toArray, List.set_cons_zero, List.set_cons_succ])
        have hA := hA2
        clear hA2
        refine wpAnyH_ready (rs := [5]) (by kernel_rfl) (by simp) (AllReadyH.cons (o := ?oo5_94) ?hoo5_94 (fun K hK => ?steponly94) AllReadyH.nil); (case hoo5_94 => (simp only [List.getElem?_toArray, List.getElem?_cons_zero, List.getElem?_cons_succ]; rfl))
        refine step_app _ rfl (.tmp 24) (.tmp 26) 25 rfl (base := Z.heap.size) Try.underlying25 elemI rfl hA.own rfl (Sl.new (sz := 1) (n := 1) (hA.blk gb _ (List.Mem.head _)).1 rfl) hone (by simp only [maxLen]; omega) (by omega) hA.ge ?_
        intro A2 c2 V49 hown1 hg1 hb1 hat1
        have hA2 := hA.app hown1 hg1 hb1 hat1
        clear hown1 hg1 hb1 hat1
        refine hK.out _ _ hA2.below (fun _ => ?_)
        clear hK K hA
        (try simp only [Act.put, List.setIfInBounds_toArray, List.set_cons_zero, List.set_cons_succ])
        have hA := hA2
        clear hA2
        refine wpAnyH_take (i := 12) (oi := ?oi_80) (v := ?v_80) ?ho_80 ?h1_80 ?h2_80 ?h3_80 ?hq_80 (Or.inl ⟨?hw_80, ?hy_80⟩) ?hs_80 ?rest_80; (case h2_80 => kernel_rfl); (case h3_80 => kernel_rfl); (case ho_80 => (simp only [List.getElem?_toArray, List.getElem?_cons_zero, List.getElem?_cons_succ]; rfl)); (case h1_80 => kernel_rfl); (case hq_80 => exact fun _ _ _ h => h); (case hw_80 => rfl); (case hy_80 => (intro w' hSw; refine exec_built (t := 37) (cs := #[.slice A2 (m + 1) c2, .int .i64 (yt + dn), .int .i64 yo]) (parts := #[(0, .tmp 27), (1, .tmp 31), (2, .tmp 33)]) ?_ ?_ w'; exact rfl; simp only [List.map_toArray, List.map_cons, List.map_nil]; exact built_wy _ _ _ _ _)); (case hs_80 => assumption); (try simp only [Act.put, List.setIfInBounds_toArray, List.set_cons_zero, List.set_cons_succ])
        refine wpAnyH_ready (rs := [14]) (by kernel_rfl) (by simp) (AllReadyH.cons (o := ?oo14_95) ?hoo14_95 (fun K hK => ?steponly95) AllReadyH.nil); (case hoo14_95 => (simp only [List.getElem?_toArray, List.getElem?_cons_zero, List.getElem?_cons_succ]; rfl))
        have hrow := hA.row (List.Mem.tail _ (List.Mem.head _)) #[.slice A2 (m + 1) c2, .int .i64 (yt + dn), .int .i64 yo]
        refine step_row rfl 37 (.tmp 13) (.tmp 34) rfl gs #[.slice A2 (m + 1) c2, .int .i64 (yt + dn), .int .i64 yo] rfl rfl _ wyz (hA.blk gs _ (List.Mem.tail _ (List.Mem.head _))).1 hii rfl (by simp [Value.oneCell']) ?_
        obtain ⟨r1, r2, r3, r4, r5⟩ := hrow
        refine hK.out _ _ r1 (fun _ => ?_)
        clear hK K hA
        (try simp only [Act.put, List.setIfInBounds_toArray, List.set_cons_zero, List.set_cons_succ])
        refine wpAnyH_done (by kernel_rfl) ?_ _
        have HE := Lib.hid (And.intro r1 (And.intro r2 (And.intro r3 (And.intro r4 r5))))
        clear r1 r2 r3 r4 r5 hclone
        go_wp2_with fail
        go_meet
        case rel =>
          obtain ⟨r1, r2, r3, r4, r5⟩ := HE.out
          exact ⟨gs, A2, c2, rfl, r5, r3, by rw [hivs]; exact r2, r4, r1⟩
    case stepQB4 =>
      refine step_slice rfl 25 1 #[(0, .tmp 25)] rfl (by simp only [List.map_toArray, List.map_cons, List.map_nil]; exact ints1 t Z.drew) ?_
      refine Ap.go1 hA ?_
      intro V19 gb hA2
      refine hK.out _ _ hA2.below (fun _ => ?_)
      clear hK K hA
      (try simp only [Act.put, List.setIfInBounds_toArray, List.set_cons_zero, List.set_cons_succ])
      have hA := hA2
      clear hA2
      refine wpAnyH_ready (rs := [2, 13]) (by kernel_rfl) (by simp) (AllReadyH.cons (o := ?oo2_96) ?hoo2_96 (fun K hK => ?stepQE2) (AllReadyH.cons (o := ?oo13_96) ?hoo13_96 (fun K hK => ?stepQE13) AllReadyH.nil)); (case hoo2_96 => (simp only [List.getElem?_toArray, List.getElem?_cons_zero, List.getElem?_cons_succ]; rfl)); (case hoo13_96 => (simp only [List.getElem?_toArray, List.getElem?_cons_zero, List.getElem?_cons_succ]; rfl))
      case stepQE2 =>
        go_simp
        refine Calls.mono (hclone _ hA.below) ?_
        rintro e V29 ⟨A1, c1, rfl, hown1, hbc⟩
        have hA2 := hA.cloned hown1 hbc
        clear hown1 hbc
        refine hK.out _ _ hA2.below (fun _ => ?_)
        clear hK K hA
        (try simp only [Act.put, List.setIfInBounds_toArray, List.set_cons_zero, List.set_cons_succ])
        have hA := hA2
        clear hA2
        refine wpAnyH_ready (rs := [5, 13]) (by kernel_rfl) (by simp) (AllReadyH.cons (o := ?oo5_97) ?hoo5_97 (fun K hK => ?stepQF5) (AllReadyH.cons (o := ?oo13_97) ?hoo13_97 (fun K hK => ?stepQF13) AllReadyH.nil)); (case hoo5_97 => (simp only [List.getElem?_toArray, List.getElem?_cons_zero, List.getElem?_cons_succ]; rfl)); (case hoo13_97 => (simp only [List.getElem?_toArray, List.getElem?_cons_zero, List.getElem?_cons_succ]; rfl))
        case stepQF5 =>
          refine step_app _ rfl (.tmp 24) (.tmp 26) 25 rfl (base := Z.heap.size) Try.underlying25 elemI rfl hA.own rfl (Sl.new (sz := 1) (n := 1) (hA.blk gb _ (List.Mem.head _)).1 rfl) hone (by simp only [maxLen]; omega) (by omega) hA.ge ?_
          intro A2 c2 V39 hown1 hg1 hb1 hat1
          have hA2 := hA.app hown1 hg1 hb1 hat1
          clear hown1 hg1 hb1 hat1
          refine hK.out _ _ hA2.below (fun _ => ?_)
          clear hK K hA
          (try simp only [Act.put, List.setIfInBounds_toArray, List.set_cons_zero, List.set_cons_succ])
          have hA := hA2
          clear hA2
          refine wpAnyH_take (i := 12) (oi := ?oi_81) (v := ?v_81) ?ho_81 ?h1_81 ?h2_81 ?h3_81 ?hq_81 (Or.inl ⟨?hw_81, ?hy_81⟩) ?hs_81 ?rest_81; (case h2_81 => kernel_rfl); (case h3_81 => kernel_rfl); (case ho_81 => (simp only [List.getElem?_toArray, List.getElem?_cons_zero, List.getElem?_cons_succ]; rfl)); (case h1_81 => kernel_rfl); (case hq_81 => exact fun _ _ _ h => h); (case hw_81 => rfl); (case hy_81 => (intro w' hSw; refine exec_built (t := 37) (cs := #[.slice A2 (m + 1) c2, .int .i64 (yt + dn), .int .i64 yo]) (parts := #[(0, .tmp 27), (1, .tmp 31), (2, .tmp 33)]) ?_ ?_ w'; exact rfl; simp only [List.map_toArray, List.map_cons, List.map_nil]; exact built_wy _ _ _ _ _)); (case hs_81 => assumption); (try simp only [Act.put, List.setIfInBounds_toArray, List.set_cons_zero, List.set_cons_succ])
          refine wpAnyH_ready (rs := [13]) (by kernel_rfl) (by simp) (AllReadyH.cons (o := ?oo13_98) ?hoo13_98 (fun K hK => ?steponly98) AllReadyH.nil); (case hoo13_98 => (simp only [List.getElem?_toArray, List.getElem?_cons_zero, List.getElem?_cons_succ]; rfl))
          refine step_new rfl hzz rfl ?_
          refine Ap.goP hA ?_
          intro V49 gs hA2
          refine hK.out _ _ hA2.below (fun _ => ?_)
          clear hK K hA
          (try simp only [Act.put, List.setIfInBounds_toArray, List.set_cons_zero, List.set_cons_succ])
          have hA := hA2
          clear hA2
          refine wpAnyH_ready (rs := [14]) (by kernel_rfl) (by simp) (AllReadyH.cons (o := ?oo14_99) ?hoo14_99 (fun K hK => ?steponly99) AllReadyH.nil); (case hoo14_99 => (simp only [List.getElem?_toArray, List.getElem?_cons_zero, List.getElem?_cons_succ]; rfl))
          have hrow := hA.row (List.Mem.head _) #[.slice A2 (m + 1) c2, .int .i64 (yt + dn), .int .i64 yo]
          refine step_row rfl 37 (.tmp 13) (.tmp 34) rfl gs #[.slice A2 (m + 1) c2, .int .i64 (yt + dn), .int .i64 yo] rfl rfl _ wyz (hA.blk gs _ (List.Mem.head _)).1 hii rfl (by simp [Value.oneCell']) ?_
          obtain ⟨r1, r2, r3, r4, r5⟩ := hrow
          refine hK.out _ _ r1 (fun _ => ?_)
          clear hK K hA
          (try simp only [Act.put, List.setIfInBounds_toArray, List.set_cons_zero, List.set_cons_succ])
          refine wpAnyH_done (by kernel_rfl) ?_ _
          have HE := Lib.hid (And.intro r1 (And.intro r2 (And.intro r3 (And.intro r4 r5))))
          clear r1 r2 r3 r4 r5 hclone
          go_wp2_with fail
          go_meet
          case rel =>
            obtain ⟨r1, r2, r3, r4, r5⟩ := HE.out
            exact ⟨gs, A2, c2, rfl, r5, r3, by rw [hivs]; exact r2, r4, r1⟩
        case stepQF13 =>
          refine step_new rfl hzz rfl ?_
          refine Ap.goP hA ?_
          intro V39 gs hA2
          refine hK.out _ _ hA2.below (fun _ => ?_)
          clear hK K hA
          (try simp only [Act.put, List.setIfInBounds_toArray, List.set_cons_zero, List.set_cons_succ])
          have hA := hA2
          clear hA2
          refine wpAnyH_ready (rs := [5]) (by kernel_rfl) (by simp) (AllReadyH.cons (o := ?oo5_100) ?hoo5_100 (fun K hK => ?steponly100) AllReadyH.nil); (case hoo5_100 => (simp only [List.getElem?_toArray, List.getElem?_cons_zero, List.getElem?_cons_succ]; rfl))
          refine step_app _ rfl (.tmp 24) (.tmp 26) 25 rfl (base := Z.heap.size) Try.underlying25 elemI rfl hA.own rfl (Sl.new (sz := 1) (n := 1) (hA.blk gb _ (List.Mem.tail _ (List.Mem.head _))).1 rfl) hone (by simp only [maxLen]; omega) (by omega) hA.ge ?_
          intro A2 c2 V49 hown1 hg1 hb1 hat1
          have hA2 := hA.app hown1 hg1 hb1 hat1
          clear hown1 hg1 hb1 hat1
          refine hK.out _ _ hA2.below (fun _ => ?_)
          clear hK K hA
          (try simp only [Act.put, List.setIfInBounds_toArray, List.set_cons_zero, List.set_cons_succ])
          have hA := hA2
          clear hA2
          refine wpAnyH_take (i := 12) (oi := ?oi_82) (v := ?v_82) ?ho_82 ?h1_82 ?h2_82 ?h3_82 ?hq_82 (Or.inl ⟨?hw_82, ?hy_82⟩) ?hs_82 ?rest_82; (case h2_82 => kernel_rfl); (case h3_82 => kernel_rfl); (case ho_82 => (simp only [List.getElem?_toArray, List.getElem?_cons_zero, List.getElem?_cons_succ]; rfl)); (case h1_82 => kernel_rfl); (case hq_82 => exact fun _ _ _ h => h); (case hw_82 => rfl); (case hy_82 => (intro w' hSw; refine exec_built (t := 37) (cs := #[.slice A2 (m + 1) c2, .int .i64 (yt + dn), .int .i64 yo]) (parts := #[(0, .tmp 27), (1, .tmp 31), (2, .tmp 33)]) ?_ ?_ w'; exact rfl; simp only [List.map_toArray, List.map_cons, List.map_nil]; exact built_wy _ _ _ _ _)); (case hs_82 => assumption); (try simp only [Act.put, List.setIfInBounds_toArray, List.set_cons_zero, List.set_cons_succ])
          refine wpAnyH_ready (rs := [14]) (by kernel_rfl) (by simp) (AllReadyH.cons (o := ?oo14_101) ?hoo14_101 (fun K hK => ?steponly101) AllReadyH.nil); (case hoo14_101 => (simp only [List.getElem?_toArray, List.getElem?_cons_zero, List.getElem?_cons_succ]; rfl))
          have hrow := hA.row (List.Mem.head _) #[.slice A2 (m + 1) c2, .int .i64 (yt + dn), .int .i64 yo]
          refine step_row rfl 37 (.tmp 13) (.tmp 34) rfl gs #[.slice A2 (m + 1) c2, .int .i64 (yt + dn), .int .i64 yo] rfl rfl _ wyz (hA.blk gs _ (List.Mem.head _)).1 hii rfl (by simp [Value.oneCell']) ?_
          obtain ⟨r1, r2, r3, r4, r5⟩ := hrow
          refine hK.out _ _ r1 (fun _ => ?_)
          clear hK K hA
          (try simp only [Act.put, List.setIfInBounds_toArray, List.set_cons_zero, List.set_cons_succ])
          refine wpAnyH_done (by kernel_rfl) ?_ _
          have HE := Lib.hid (And.intro r1 (And.intro r2 (And.intro r3 (And.intro r4 r5))))
          clear r1 r2 r3 r4 r5 hclone
          go_wp2_with fail
          go_meet
          case rel =>
            obtain ⟨r1, r2, r3, r4, r5⟩ := HE.out
            exact ⟨gs, A2, c2, rfl, r5, r3, by rw [hivs]; exact r2, r4, r1⟩
      case stepQE13 =>
        refine step_new rfl hzz rfl ?_
        refine Ap.goP hA ?_
        intro V29 gs hA2
        refine hK.out _ _ hA2.below (fun _ => ?_)
        clear hK K hA
        (try simp only [Act.put, List.setIfInBounds_toArray, List.set_cons_zero, List.set_cons_succ])
        have hA := hA2
        clear hA2
        refine wpAnyH_ready (rs := [2]) (by kernel_rfl) (by simp) (AllReadyH.cons (o := ?oo2_102) ?hoo2_102 (fun K hK => ?steponly102) AllReadyH.nil); (case hoo2_102 => (simp only [List.getElem?_toArray, List.getElem?_cons_zero, List.getElem?_cons_succ]; rfl))
        go_simp
        refine Calls.mono (hclone _ hA.below) ?_
        rintro e V39 ⟨A1, c1, rfl, hown1, hbc⟩
        have hA2 := hA.cloned hown1 hbc
        clear hown1 hbc
        refine hK.out _ _ hA2.below (fun _ => ?_)
        clear hK K hA
        (try simp only [Act.put, List.setIfInBounds_toArray, List.set_cons_zero, List.set_cons_succ])
        have hA := hA2
        clear hA2
        refine wpAnyH_ready (rs := [5]) (by kernel_rfl) (by simp) (AllReadyH.cons (o := ?oo5_103) ?hoo5_103 (fun K hK => ?steponly103) AllReadyH.nil); (case hoo5_103 => (simp only [List.getElem?_toArray, List.getElem?_cons_zero, List.getElem?_cons_succ]; rfl))
        refine step_app _ rfl (.tmp 24) (.tmp 26) 25 rfl (base := Z.heap.size) Try.underlying25 elemI rfl hA.own rfl (Sl.new (sz := 1) (n := 1) (hA.blk gb _ (List.Mem.tail _ (List.Mem.head _))).1 rfl) hone (by simp only [maxLen]; omega) (by omega) hA.ge ?_
        intro A2 c2 V49 hown1 hg1 hb1 hat1
        have hA2 := hA.app hown1 hg1 hb1 hat1
        clear hown1 hg1 hb1 hat1
        refine hK.out _ _ hA2.below (fun _ => ?_)
        clear hK K hA
        (try simp only [Act.put, List.setIfInBounds_toArray, List.set_cons_zero, List.set_cons_succ])
        have hA := hA2
        clear hA2
        refine wpAnyH_take (i := 12) (oi := ?oi_83) (v := ?v_83) ?ho_83 ?h1_83 ?h2_83 ?h3_83 ?hq_83 (Or.inl ⟨?hw_83, ?hy_83⟩) ?hs_83 ?rest_83; (case h2_83 => kernel_rfl); (case h3_83 => kernel_rfl); (case ho_83 => (simp only [List.getElem?_toArray, List.getElem?_cons_zero, List.getElem?_cons_succ]; rfl)); (case h1_83 => kernel_rfl); (case hq_83 => exact fun _ _ _ h => h); (case hw_83 => rfl); (case hy_83 => (intro w' hSw; refine exec_built (t := 37) (cs := #[.slice A2 (m + 1) c2, .int .i64 (yt + dn), .int .i64 yo]) (parts := #[(0, .tmp 27), (1, .tmp 31), (2, .tmp 33)]) ?_ ?_ w'; exact rfl; simp only [List.map_toArray, List.map_cons, List.map_nil]; exact built_wy _ _ _ _ _)); (case hs_83 => assumption); (try simp only [Act.put, List.setIfInBounds_toArray, List.set_cons_zero, List.set_cons_succ])
        refine wpAnyH_ready (rs := [14]) (by kernel_rfl) (by simp) (AllReadyH.cons (o := ?oo14_104) ?hoo14_104 (fun K hK => ?steponly104) AllReadyH.nil); (case hoo14_104 => (simp only [List.getElem?_toArray, List.getElem?_cons_zero, List.getElem?_cons_succ]; rfl))
        have hrow := hA.row (List.Mem.head _) #[.slice A2 (m + 1) c2, .int .i64 (yt + dn), .int .i64 yo]
        refine step_row rfl 37 (.tmp 13) (.tmp 34) rfl gs #[.slice A2 (m + 1) c2, .int .i64 (yt + dn), .int .i64 yo] rfl rfl _ wyz (hA.blk gs _ (List.Mem.head _)).1 hii rfl (by simp [Value.oneCell']) ?_
        obtain ⟨r1, r2, r3, r4, r5⟩ := hrow
        refine hK.out _ _ r1 (fun _ => ?_)
        clear hK K hA
        (try simp only [Act.put, List.setIfInBounds_toArray, List.set_cons_zero, List.set_cons_succ])
        refine wpAnyH_done (by kernel_rfl) ?_ _
        have HE := Lib.hid (And.intro r1 (And.intro r2 (And.intro r3 (And.intro r4 r5))))
        clear r1 r2 r3 r4 r5 hclone
        go_wp2_with fail
        go_meet
        case rel =>
          obtain ⟨r1, r2, r3, r4, r5⟩ := HE.out
          exact ⟨gs, A2, c2, rfl, r5, r3, by rw [hivs]; exact r2, r4, r1⟩
    case stepQB13 =>
      refine step_new rfl hzz rfl ?_
      refine Ap.goP hA ?_
      intro V19 gs hA2
      refine hK.out _ _ hA2.below (fun _ => ?_)
      clear hK K hA
      (try simp only [Act.put, List.setIfInBounds_toArray, List.set_cons_zero, List.set_cons_succ])
      have hA := hA2
      clear hA2
      refine wpAnyH_ready (rs := [2, 4]) (by kernel_rfl) (by simp) (AllReadyH.cons (o := ?oo2_105) ?hoo2_105 (fun K hK => ?stepQG2) (AllReadyH.cons (o := ?oo4_105) ?hoo4_105 (fun K hK => ?stepQG4) AllReadyH.nil)); (case hoo2_105 => (simp only [List.getElem?_toArray, List.getElem?_cons_zero, List.getElem?_cons_succ]; rfl)); (case hoo4_105 => (simp only [List.getElem?_toArray, List.getElem?_cons_zero, List.getElem?_cons_succ]; rfl))
      case stepQG2 =>
        go_simp
        refine Calls.mono (hclone _ hA.below) ?_
        rintro e V29 ⟨A1, c1, rfl, hown1, hbc⟩
        have hA2 := hA.cloned hown1 hbc
        clear hown1 hbc
        refine hK.out _ _ hA2.below (fun _ => ?_)
        clear hK K hA
        (try simp only [Act.put, List.setIfInBounds_toArray, List.set_cons_zero, List.set_cons_succ])
        have hA := hA2
        clear hA2
        refine wpAnyH_ready (rs := [4]) (by kernel_rfl) (by simp) (AllReadyH.cons (o := ?oo4_106) ?hoo4_106 (fun K hK => ?steponly106) AllReadyH.nil); (case hoo4_106 => (simp only [List.getElem?_toArray, List.getElem?_cons_zero, List.getElem?_cons_succ]; rfl))
        refine step_slice rfl 25 1 #[(0, .tmp 25)] rfl (by simp only [List.map_toArray, List.map_cons, List.map_nil]; exact ints1 t V29) ?_
        refine Ap.go1 hA ?_
        intro V39 gb hA2
        refine hK.out _ _ hA2.below (fun _ => ?_)
        clear hK K hA
        (try simp only [Act.put, List.setIfInBounds_toArray, List.set_cons_zero, List.set_cons_succ])
        have hA := hA2
        clear hA2
        refine wpAnyH_ready (rs := [5]) (by kernel_rfl) (by simp) (AllReadyH.cons (o := ?oo5_107) ?hoo5_107 (fun K hK => ?steponly107) AllReadyH.nil); (case hoo5_107 => (simp only [List.getElem?_toArray, List.getElem?_cons_zero, List.getElem?_cons_succ]; rfl))
        refine step_app _ rfl (.tmp 24) (.tmp 26) 25 rfl (base := Z.heap.size) Try.underlying25 elemI rfl hA.own rfl (Sl.new (sz := 1) (n := 1) (hA.blk gb _ (List.Mem.head _)).1 rfl) hone (by simp only [maxLen]; omega) (by omega) hA.ge ?_
        intro A2 c2 V49 hown1 hg1 hb1 hat1
        have hA2 := hA.app hown1 hg1 hb1 hat1
        clear hown1 hg1 hb1 hat1
        refine hK.out _ _ hA2.below (fun _ => ?_)
        clear hK K hA
        (try simp only [Act.put, List.setIfInBounds_toArray, List.set_cons_zero, List.set_cons_succ])
        have hA := hA2
        clear hA2
        refine wpAnyH_take (i := 12) (oi := ?oi_84) (v := ?v_84) ?ho_84 ?h1_84 ?h2_84 ?h3_84 ?hq_84 (Or.inl ⟨?hw_84, ?hy_84⟩) ?hs_84 ?rest_84; (case h2_84 => kernel_rfl); (case h3_84 => kernel_rfl); (case ho_84 => (simp only [List.getElem?_toArray, List.getElem?_cons_zero, List.getElem?_cons_succ]; rfl)); (case h1_84 => kernel_rfl); (case hq_84 => exact fun _ _ _ h => h); (case hw_84 => rfl); (case hy_84 => (intro w' hSw; refine exec_built (t := 37) (cs := #[.slice A2 (m + 1) c2, .int .i64 (yt + dn), .int .i64 yo]) (parts := #[(0, .tmp 27), (1, .tmp 31), (2, .tmp 33)]) ?_ ?_ w'; exact rfl; simp only [List.map_toArray, List.map_cons, List.map_nil]; exact built_wy _ _ _ _ _)); (case hs_84 => assumption); (try simp only [Act.put, List.setIfInBounds_toArray, List.set_cons_zero, List.set_cons_succ])
        refine wpAnyH_ready (rs := [14]) (by kernel_rfl) (by simp) (AllReadyH.cons (o := ?oo14_108) ?hoo14_108 (fun K hK => ?steponly108) AllReadyH.nil); (case hoo14_108 => (simp only [List.getElem?_toArray, List.getElem?_cons_zero, List.getElem?_cons_succ]; rfl))
        have hrow := hA.row (List.Mem.tail _ (List.Mem.head _)) #[.slice A2 (m + 1) c2, .int .i64 (yt + dn), .int .i64 yo]
        refine step_row rfl 37 (.tmp 13) (.tmp 34) rfl gs #[.slice A2 (m + 1) c2, .int .i64 (yt + dn), .int .i64 yo] rfl rfl _ wyz (hA.blk gs _ (List.Mem.tail _ (List.Mem.head _))).1 hii rfl (by simp [Value.oneCell']) ?_
        obtain ⟨r1, r2, r3, r4, r5⟩ := hrow
        refine hK.out _ _ r1 (fun _ => ?_)
        clear hK K hA
        (try simp only [Act.put, List.setIfInBounds_toArray, List.set_cons_zero, List.set_cons_succ])
        refine wpAnyH_done (by kernel_rfl) ?_ _
        have HE := Lib.hid (And.intro r1 (And.intro r2 (And.intro r3 (And.intro r4 r5))))
        clear r1 r2 r3 r4 r5 hclone
        go_wp2_with fail
        go_meet
        case rel =>
          obtain ⟨r1, r2, r3, r4, r5⟩ := HE.out
          exact ⟨gs, A2, c2, rfl, r5, r3, by rw [hivs]; exact r2, r4, r1⟩
      case stepQG4 =>
        refine step_slice rfl 25 1 #[(0, .tmp 25)] rfl (by simp only [List.map_toArray, List.map_cons, List.map_nil]; exact ints1 t V19) ?_
        refine Ap.go1 hA ?_
        intro V29 gb hA2
        refine hK.out _ _ hA2.below (fun _ => ?_)
        clear hK K hA
        (try simp only [Act.put, List.setIfInBounds_toArray, List.set_cons_zero, List.set_cons_succ])
        have hA := hA2
        clear hA2
        refine wpAnyH_ready (rs := [2]) (by kernel_rfl) (by simp) (AllReadyH.cons (o := ?oo2_109) ?hoo2_109 (fun K hK => ?steponly109) AllReadyH.nil); (case hoo2_109 => (simp only [List.getElem?_toArray, List.getElem?_cons_zero, List.getElem?_cons_succ]; rfl))
        go_simp
        refine Calls.mono (hclone _ hA.below) ?_
        rintro e V39 ⟨A1, c1, rfl, hown1, hbc⟩
        have hA2 := hA.cloned hown1 hbc
        clear hown1 hbc
        refine hK.out _ _ hA2.below (fun _ => ?_)
        clear hK K hA
        (try simp only [Act.put, List.setIfInBounds_toArray, List.set_cons_zero, List.set_cons_succ])
        have hA := hA2
        clear hA2
        refine wpAnyH_ready (rs := [5]) (by kernel_rfl) (by simp) (AllReadyH.cons (o := ?oo5_110) ?hoo5_110 (fun K hK => ?steponly110) AllReadyH.nil); (case hoo5_110 => (simp only [List.getElem?_toArray, List.getElem?_cons_zero, List.getElem?_cons_succ]; rfl))
        refine step_app _ rfl (.tmp 24) (.tmp 26) 25 rfl (base := Z.heap.size) Try.underlying25 elemI rfl hA.own rfl (Sl.new (sz := 1) (n := 1) (hA.blk gb _ (List.Mem.head _)).1 rfl) hone (by simp only [maxLen]; omega) (by omega) hA.ge ?_
        intro A2 c2 V49 hown1 hg1 hb1 hat1
        have hA2 := hA.app hown1 hg1 hb1 hat1
        clear hown1 hg1 hb1 hat1
        refine hK.out _ _ hA2.below (fun _ => ?_)
        clear hK K hA
        (try simp only [Act.put, List.setIfInBounds_toArray, List.set_cons_zero, List.set_cons_succ])
        have hA := hA2
        clear hA2
        refine wpAnyH_take (i := 12) (oi := ?oi_85) (v := ?v_85) ?ho_85 ?h1_85 ?h2_85 ?h3_85 ?hq_85 (Or.inl ⟨?hw_85, ?hy_85⟩) ?hs_85 ?rest_85; (case h2_85 => kernel_rfl); (case h3_85 => kernel_rfl); (case ho_85 => (simp only [List.getElem?_toArray, List.getElem?_cons_zero, List.getElem?_cons_succ]; rfl)); (case h1_85 => kernel_rfl); (case hq_85 => exact fun _ _ _ h => h); (case hw_85 => rfl); (case hy_85 => (intro w' hSw; refine exec_built (t := 37) (cs := #[.slice A2 (m + 1) c2, .int .i64 (yt + dn), .int .i64 yo]) (parts := #[(0, .tmp 27), (1, .tmp 31), (2, .tmp 33)]) ?_ ?_ w'; exact rfl; simp only [List.map_toArray, List.map_cons, List.map_nil]; exact built_wy _ _ _ _ _)); (case hs_85 => assumption); (try simp only [Act.put, List.setIfInBounds_toArray, List.set_cons_zero, List.set_cons_succ])
        refine wpAnyH_ready (rs := [14]) (by kernel_rfl) (by simp) (AllReadyH.cons (o := ?oo14_111) ?hoo14_111 (fun K hK => ?steponly111) AllReadyH.nil); (case hoo14_111 => (simp only [List.getElem?_toArray, List.getElem?_cons_zero, List.getElem?_cons_succ]; rfl))
        have hrow := hA.row (List.Mem.tail _ (List.Mem.head _)) #[.slice A2 (m + 1) c2, .int .i64 (yt + dn), .int .i64 yo]
        refine step_row rfl 37 (.tmp 13) (.tmp 34) rfl gs #[.slice A2 (m + 1) c2, .int .i64 (yt + dn), .int .i64 yo] rfl rfl _ wyz (hA.blk gs _ (List.Mem.tail _ (List.Mem.head _))).1 hii rfl (by simp [Value.oneCell']) ?_
        obtain ⟨r1, r2, r3, r4, r5⟩ := hrow
        refine hK.out _ _ r1 (fun _ => ?_)
        clear hK K hA
        (try simp only [Act.put, List.setIfInBounds_toArray, List.set_cons_zero, List.set_cons_succ])
        refine wpAnyH_done (by kernel_rfl) ?_ _
        have HE := Lib.hid (And.intro r1 (And.intro r2 (And.intro r3 (And.intro r4 r5))))
        clear r1 r2 r3 r4 r5 hclone
        go_wp2_with fail
        go_meet
        case rel =>
          obtain ⟨r1, r2, r3, r4, r5⟩ := HE.out
          exact ⟨gs, A2, c2, rfl, r5, r3, by rw [hivs]; exact r2, r4, r1⟩
  case rest =>
    obtain ⟨G, A2, c2, rfl, hG, hGb, hown, hne, hbX⟩ := hcut
    rename World => X
    obtain ⟨z8, hBZ, hwide⟩ := HZ.out
    have x8 := bBlk hbX (Array.getElem?_eq_some_iff.1 z8).1 z8
    have hBX := bNext hBZ hbX
    have hii : (Try.prog.info? 37).map (·.size) = some 3 := wy_size
    have hlen : (yn ++ [t]).length = m + 1 := by rw [List.length_append, HL.out]; rfl
    have gx : IntKind.i64.wrap (yo + 1) = yo + 1 := IntWalk.i64_in _ (by omega)
    have hGX := (Array.getElem?_eq_some_iff.1 hGb).1
    have v8 : V2.heap.size < Z.heap.size := by omega
    have cc2 : X.cell? ⟨G, 2, none⟩ = some (.int .i64 yo) := blk_cell hGb rfl
    have cf2 := blk_frozen hGb 2
    clear z8 hBZ k0 k1 k2
    cases dov
    · have gb2 := hGb
      have x82 := x8
      have hB2 := hBX
      have hown2 := hown
      clear hGb x8 hBX hown
      obtain ⟨V9, hV9⟩ : ∃ q, X.setRow V2.heap.size #[.slice A2 (m + 1) c2, .int .i64 (yt + dn), .int .i64 yo] = q := ⟨_, rfl⟩
      have b9 : V9.heap[V2.heap.size]? = some (.cells #[.slice A2 (m + 1) c2, .int .i64 (yt + dn), .int .i64 yo] 37) := by rw [← hV9]; exact setRow_heap _ _ _ _ _ _ x82
      have hB9 : Below w.heap.size w V9 := by rw [← hV9]; exact bSetRow hB2 (by omega) _
      have hown9 : V9.ownsRow w.heap.size 3 1 (.slice A2 (m + 1) c2) (m + 1) (ivs (yn ++ [t])) := by
        rw [← hV9]
        refine own_base (base := Z.heap.size) ⟨hown2.1, ?_⟩ (by omega)
        rcases hown2.2 with e | ⟨g, cap, cur, e, h2, h3, h4⟩
        · exact .inl e
        · exact .inr ⟨g, cap, cur, e, h2, (setRow_other _ _ _ _ (by omega)).trans h3, h4⟩
      have hlv : (Try.prog.info? 37).map (·.size) = some (#[Value.slice A2 (m + 1) c2, .int .i64 (yt + dn), .int .i64 yo] : Array Value).size := hii
      have HF := Lib.hid (And.intro hB9 (And.intro hown9 hlen))
      clear hB9 hown9 hlen hB2 hown2 hbX
      go_upto_region 5 with (fail)
      refine wp_region_lit ?_
      refine wpList_load_row rfl 37 (.tmp 13) rfl _ rfl _ #[.slice A2 (m + 1) c2, .int .i64 (yt + dn), .int .i64 yo] (0, 0) _ gb2 Try.underlying37 rfl hlv ?_
      (try simp only [Act.put, List.setIfInBounds_toArray, List.set_cons_zero, List.set_cons_succ])
      iterate 3 (first | go_guarded | go_step)
      (try simp only [Act.put, List.setIfInBounds_toArray, List.set_cons_zero, List.set_cons_succ])
      refine wpList_store_row rfl 37 (.tmp 8) (.tmp 40) rfl _ #[.slice A2 (m + 1) c2, .int .i64 (yt + dn), .int .i64 yo] rfl rfl _ zw x82 hii (by rw [hz3]; rfl) (by simp [Value.oneCell']) ?_
      (try simp only [Act.put, List.setIfInBounds_toArray, List.set_cons_zero, List.set_cons_succ])
      rw [hV9]
      clear hV9
      go_wp2_with fail
      have hld := run_loadVar_row (P := Try.prog) V9 _ _ 37 _ _ _ b9 Try.underlying37 rfl hlv
      refine bodyPost_ret (by simp [results, Try.results36, Act.put, asAddr, Result.andThen, hld]; try rfl) rfl ?_
      obtain ⟨hB9, hown9, hlen⟩ := HF.out
      rw [HW.out]
      refine ⟨A2, c2, ?_, ?_, hB9⟩
      · unfold wyv
        simp [hlen]
        try trivial
      · simp only [hlen]
        exact hown9
    · obtain ⟨X2, hX2⟩ : ∃ q, X.setCell ⟨G, 2, none⟩ (.int .i64 (yo + 1)) = q := ⟨_, rfl⟩
      have gb2 : X2.heap[G]? = some (.cells #[.slice A2 (m + 1) c2, .int .i64 (yt + dn), .int .i64 (yo + 1)] 37) := by rw [← hX2]; exact blk_set hGb 2 _
      have x82 : X2.heap[V2.heap.size]? = some (.cells zw 37) := by rw [← hX2]; exact blk_far x8 _ (by show V2.heap.size ≠ G; omega)
      have hB2 : Below w.heap.size w X2 := by rw [← hX2]; exact hBX.setCell (p := ⟨G, 2, none⟩) (by show w.heap.size ≤ G; omega) _
      have hown2 : X2.ownsRow Z.heap.size 3 1 (.slice A2 (m + 1) c2) (m + 1) (ivs (yn ++ [t])) := by
        rw [← hX2]
        refine ⟨hown.1, ?_⟩
        rcases hown.2 with e | ⟨g, cap, cur, e, h2, h3, h4⟩
        · exact .inl e
        · exact .inr ⟨g, cap, cur, e, h2, blk_far h3 (p := ⟨G, 2, none⟩) _ (fun e2 => hne (by rw [e, e2]; rfl)), h4⟩
      clear hGb x8 hBX hown
      obtain ⟨V9, hV9⟩ : ∃ q, X2.setRow V2.heap.size #[.slice A2 (m + 1) c2, .int .i64 (yt + dn), .int .i64 (yo + 1)] = q := ⟨_, rfl⟩
      have b9 : V9.heap[V2.heap.size]? = some (.cells #[.slice A2 (m + 1) c2, .int .i64 (yt + dn), .int .i64 (yo + 1)] 37) := by rw [← hV9]; exact setRow_heap _ _ _ _ _ _ x82
      have hB9 : Below w.heap.size w V9 := by rw [← hV9]; exact bSetRow hB2 (by omega) _
      have hown9 : V9.ownsRow w.heap.size 3 1 (.slice A2 (m + 1) c2) (m + 1) (ivs (yn ++ [t])) := by
        rw [← hV9]
        refine own_base (base := Z.heap.size) ⟨hown2.1, ?_⟩ (by omega)
        rcases hown2.2 with e | ⟨g, cap, cur, e, h2, h3, h4⟩
        · exact .inl e
        · exact .inr ⟨g, cap, cur, e, h2, (setRow_other _ _ _ _ (by omega)).trans h3, h4⟩
      have hlv : (Try.prog.info? 37).map (·.size) = some (#[Value.slice A2 (m + 1) c2, .int .i64 (yt + dn), .int .i64 (yo + 1)] : Array Value).size := hii
      have HF := Lib.hid (And.intro hB9 (And.intro hown9 hlen))
      clear hB9 hown9 hlen hB2 hown2 hbX
      go_upto_region 5 with (fail)
      refine wp_region_lit ?_
      refine wpList_load_row rfl 37 (.tmp 13) rfl _ rfl _ #[.slice A2 (m + 1) c2, .int .i64 (yt + dn), .int .i64 (yo + 1)] (0, 0) _ gb2 Try.underlying37 rfl hlv ?_
      (try simp only [Act.put, List.setIfInBounds_toArray, List.set_cons_zero, List.set_cons_succ])
      iterate 3 (first | go_guarded | go_step)
      (try simp only [Act.put, List.setIfInBounds_toArray, List.set_cons_zero, List.set_cons_succ])
      refine wpList_store_row rfl 37 (.tmp 8) (.tmp 40) rfl _ #[.slice A2 (m + 1) c2, .int .i64 (yt + dn), .int .i64 (yo + 1)] rfl rfl _ zw x82 hii (by rw [hz3]; rfl) (by simp [Value.oneCell']) ?_
      (try simp only [Act.put, List.setIfInBounds_toArray, List.set_cons_zero, List.set_cons_succ])
      rw [hV9]
      clear hV9
      go_wp2_with fail
      have hld := run_loadVar_row (P := Try.prog) V9 _ _ 37 _ _ _ b9 Try.underlying37 rfl hlv
      refine bodyPost_ret (by simp [results, Try.results36, Act.put, asAddr, Result.andThen, hld]; try rfl) rfl ?_
      obtain ⟨hB9, hown9, hlen⟩ := HF.out
      rw [HW.out]
      refine ⟨A2, c2, ?_, ?_, hB9⟩
      · unfold wyv
        simp [hlen]
        try trivial
      · simp only [hlen]
        exact hown9
end Go.Proofs.Ytnojikbecohhfaa
