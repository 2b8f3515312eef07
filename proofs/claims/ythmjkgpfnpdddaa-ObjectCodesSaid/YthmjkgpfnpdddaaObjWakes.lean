/- The walk over the wakes of layer 3. -/
import Derived.Test.YthmjkgpfnpdddaaObjBody
import Derived.Lib.SlBytesConst
namespace Go.Proofs.Ythmjkgpfnpdddaa
set_option linter.unusedSimpArgs false
set_option linter.unusedVariables false
open Go.RowKit Go.ChangeShapes Go.WideShapes Go.Sort

theorem conv_new (W : World) (C : Array Value) (n c : Nat) : (convert 22 22 (.slice (some ⟨W.heap.size, 0, none⟩) n c)).run Try.prog (W.alloc (.cells C 5)) = .ok (.slice (some ⟨W.heap.size, 0, none⟩) n c) (W.alloc (.cells C 5 (C.size, C.size + 1))) :=
  Lib.run_convert_bytes_const W 22 5 C n c Try.underlying22 Try.underlying5
theorem made_rep {m : Nat} (hm : 0 < m) (v : Value) (n : Nat) : madeCells (List.replicate m v).toArray n = (List.replicate n v).toArray := by
  have hg : ∀ j, (List.replicate m v).toArray[j % (List.replicate m v).toArray.size]! = v := fun j => by
    have h0 : (List.replicate m v).toArray.size = m := by rw [List.size_toArray, List.length_replicate]
    rw [getElem!_pos _ _ (by rw [h0]; exact Nat.mod_lt _ hm), List.getElem_toArray, List.getElem_replicate]
  have e : madeCells (List.replicate m v).toArray n = (Array.range n).map (fun _ => v) := by
    unfold madeCells
    congr 1
    funext x
    exact hg x
  rw [e]
  apply Array.ext
  · simp
  · intro i h1 h2
    simp
theorem zblk_rep : bvs zblk = List.replicate 128 (.int .u8 0) := by unfold bvs zblk; rw [List.map_replicate]; rfl
theorem make_one (w : World) : (Instr.makeSlice 23 (.int .i64 1) (.int .i64 1)).run Try.prog w = .ok (.slice (some ⟨w.heap.size, 0, none⟩) 1 1) (w.alloc (.cells (bvs zblk).toArray 40)) := by
  have h : (Try.prog.info? 40).map (fun i => (i.zero, i.size, i.bytes)) = some (some (.agg (bvs zblk).toArray), 128, 128) := by kernel_rfl
  cases hq : Try.prog.info? 40 with
  | none => rw [hq] at h; cases h
  | some i =>
    rw [hq] at h
    have hz : i.zero = some (.agg (bvs zblk).toArray) := by have := h; simp only [Option.map_some, Option.some.injEq, Prod.mk.injEq] at this; exact this.1
    have hs : i.size = 128 := by have := h; simp only [Option.map_some, Option.some.injEq, Prod.mk.injEq] at this; exact this.2.1
    have hb : i.bytes = 128 := by have := h; simp only [Option.map_some, Option.some.injEq, Prod.mk.injEq] at this; exact this.2.2
    have := run_make (P := Try.prog) w 23 40 i _ (by kernel_rfl) hq hz .i64 .i64 1 1 (by omega) (by omega) (by rw [hb]; omega) (by omega)
    rw [this, hs]
    simp only [Value.cells, Int.toNat_one, Nat.one_mul]
    rw [zblk_rep, made_rep (by omega)]
def ab : List UInt8 := [97, 98]
def abF : List Blk := frameB 3 ab
theorem ab_ok : obOk 3 ab.length = true := by decide
theorem ab_flat : abF.flatten = obAll 3 ab ++ List.replicate 119 0 := frame_flat ab_ok
theorem ab_len : abF.length = 1 := by
  have := frame_len ab_ok
  have e : blocksN (ab.length : Int) = 1 := by decide
  rw [e] at this
  unfold abF
  omega
theorem ab_all : All128 abF := frame_all _ _
theorem ab_at : at8 abF.flatten 0 = 3 ∧ at8 abF.flatten 2 = 2 ∧ at8 abF.flatten 3 = 97 ∧ at8 abF.flatten 9 = 0 := by
  rw [ab_flat]
  have h9 : (obAll 3 ab).length = 9 := obAll_len 3 ab
  refine ⟨rfl, rfl, rfl, ?_⟩
  unfold at8
  rw [List.getElem?_append_right (by omega), h9]
  rfl
theorem ab_back : isO abF = true ∧ obKind abF = 3 ∧ obBody abF = ab := ⟨(frame_back ab_ok).1, (frame_back ab_ok).2.1, (frame_back ab_ok).2.2.2⟩
theorem z_not : isO [zblk] = false := by
  unfold isO
  rw [show obOk (obKind [zblk]) (obN [zblk]) = false from by decide, Bool.and_false, Bool.false_and]
set_option maxHeartbeats 16000000 in
set_option maxRecDepth 100000 in
theorem wakes03_any (w : World) : Calls Try.prog 13 #[] w (Ret w (.bool true)) := by
  have hfr := fun W A B c (h1 : B ≤ W.heap.size) (h2 : Sl W B 1 A 2 (bvs ab)) => frame_any (kind := 3) (A := A) (n := 2) (B := B) (c := c) (body := ab) rfl W h2 h1
  have hf7 := fun W => frame_any (kind := 7) (A := none) (n := 0) (B := 0) (c := 0) (body := []) rfl W Sl.nil (Nat.zero_le _)
  rw [show frameE 3 2 = 0 from by decide] at hfr
  rw [show frameE 7 0 = 1 from by decide, show frameB 7 [] = [] from by decide] at hf7
  have hcv := conv_new
  have hmk := make_one
  go_enter Try.func13, Try.ntmps13
  go_wp2_with fail
  obtain ⟨W1, hW1⟩ : ∃ q, w.alloc (.cells #[Value.int .u8 97, .int .u8 98] 5 (2, 3)) = q := ⟨_, rfl⟩
  rw [hW1]
  have b1 : W1.heap[w.heap.size]? = some (.cells #[Value.int .u8 97, .int .u8 98] 5 (2, 3)) := by rw [← hW1]; exact heap_alloc_new _ _
  have hB1 : Below w.heap.size w W1 := by rw [← hW1]; exact (Below.refl _ _).alloc (Nat.le_refl _) _
  clear hW1
  refine Calls.mono (hfr W1 _ _ _ (Nat.le_refl _) (Sl.new (n := 2) b1 rfl)) ?_
  rintro e W2 ⟨A1, n1, c1, rfl, hn1, hnc1, hcm1, hs1, hb2⟩
  have hB2 := hB1.trans (hb2.mono hB1.size)
  replace hn1 : n1 = 1 := hn1.trans ab_len
  subst hn1
  have hF : frameB 3 ab = abF := rfl
  rw [hF] at hs1
  have hbat : BAt W2 W2.heap.size A1 1 c1 abF := ⟨ab_all, ab_len, hs1, hnc1⟩
  clear hfr hF hcv b1 hB1 hb2 hs1
  have hbd := body_any W2 hbat (by omega)
  unfold BodP at hbd
  obtain ⟨q1, q2, q3⟩ := ab_back
  rw [show kindOf abF = 3 from by unfold kindOf; rw [q1, if_pos rfl]; exact q2, show bodyOf abF = ab from by unfold bodyOf; rw [q1, if_pos rfl]; exact q3, show bodyE abF = 0 from by unfold bodyE; rw [q1, if_pos rfl]] at hbd
  clear q1 q2 q3
  go_wp2_with fail
  refine Calls.mono hbd ?_
  rintro e W3 ⟨A4, n4, c4, rfl, hn4, hnc4, hcm4, hs4, hb3⟩
  replace hn4 : n4 = 2 := hn4
  subst hn4
  replace hbat := hbat.nxt hb3
  have hB3 := bNext hB2 hb3
  clear hbd hB2 hb3
  have hZ : BAt (W3.alloc (.cells (bvs zblk).toArray 40)) (W3.alloc (.cells (bvs zblk).toArray 40)).heap.size (some ⟨W3.heap.size, 0, none⟩) 1 1 [zblk] :=
    ⟨fun x hx => by simp at hx; subst hx; exact zblk_len, rfl, Sl.new (sz := 128) (n := 1) (heap_alloc_new _ _) (by simp [bvs_len, zblk_len]), Nat.le_refl _⟩
  have hbz := body_any _ hZ (by omega)
  unfold BodP at hbz
  rw [show kindOf [zblk] = 0 from by unfold kindOf; rw [z_not]; rfl, show bodyOf [zblk] = [] from by unfold bodyOf; rw [z_not]; rfl, show bodyE [zblk] = 11 from by unfold bodyE; rw [z_not]; rfl] at hbz
  have hbA : Below W3.heap.size W3 (W3.alloc (.cells (bvs zblk).toArray 40)) := (Below.refl _ _).alloc (Nat.le_refl _) _
  clear hZ
  go_wp2_with fail
  refine Calls.mono hbz ?_
  rintro e W4 ⟨A7, n7, c7, rfl, hn7, -, -, -, hb4⟩
  have hb4' : Below W3.heap.size W3 W4 := hbA.trans (hb4.mono hbA.size)
  replace hbat := hbat.nxt hb4'
  replace hs4 := hs4.next hb4'
  have hB4 := bNext hB3 hb4'
  clear hbz hbA hb4 hb4' hB3 hmk hn7
  go_wp2_with fail
  refine Calls.mono (hf7 _) ?_
  rintro e W5 ⟨A9, n9, c9, rfl, hn9, -, -, -, hb5⟩
  replace hbat := hbat.nxt hb5
  replace hs4 := hs4.next hb5
  have hB5 := bNext hB4 hb5
  clear hf7 hb5 hB4 hn9
  obtain ⟨pb, ob, rfl, hpb, -⟩ := hbat.sl.at_ (by omega)
  obtain ⟨t0, t2, t3, t9⟩ := ab_at
  have k0 := flat_cell hbat rfl (i := 0) (by omega)
  have k2 := flat_cell hbat rfl (i := 2) (by omega)
  have k3 := flat_cell hbat rfl (i := 3) (by omega)
  have k9 := flat_cell hbat rfl (i := 9) (by omega)
  rw [t0, Nat.add_zero] at k0
  rw [t2] at k2
  rw [t3] at k3
  rw [t9] at k9
  replace k0 : W5.cell? ⟨pb, ob, none⟩ = some (.int .u8 3) := k0
  replace k2 : W5.cell? ⟨pb, ob + 2, none⟩ = some (.int .u8 2) := k2
  replace k3 : W5.cell? ⟨pb, ob + 3, none⟩ = some (.int .u8 97) := k3
  replace k9 : W5.cell? ⟨pb, ob + 9, none⟩ = some (.int .u8 0) := k9
  have hbA : Below W5.heap.size W5 (W5.alloc (.cells #[Value.int .u8 97, .int .u8 98] 5 (2, 3))) := (Below.refl _ _).alloc (Nat.le_refl _) _
  have hby := fun c c' => bytes_any A4 (some ⟨W5.heap.size, 0, none⟩) 2 2 c c' _ _ ab ab _ (hs4.below hbA) (Sl.new (n := 2) (heap_alloc_new W5 (.cells #[Value.int .u8 97, .int .u8 98] 5 (2, 3))) rfl)
  rw [decide_eq_true rfl] at hby
  have hbk := fun W => (And.intro (blocks_any 121 W (by omega) (by omega)) (And.intro (blocks_any 122 W (by omega) (by omega)) (blocks_any 1001 W (by omega) (by omega))))
  rw [show blocksN 121 = 1 from by decide, show blocksN 122 = 2 from by decide, show blocksN 1001 = 0 from by decide] at hbk
  have hB6 := bNext hB5 hbA
  have HB := Lib.hid hB6
  clear hbat t0 t2 t3 t9 hB5 hs4 hbA hB6
  have hcv := conv_new
  go_wp2_with (first
    | (go_at_call 19; go_loud (with_reducible refine Calls.mono (hby _ _) ?_); clear hby; rintro e w' ⟨rfl, rfl⟩)
    | (go_at_call 20; first | (with_reducible refine Calls.mono (hbk _).1 ?_); rintro e w' ⟨rfl, rfl⟩ | (with_reducible refine Calls.mono (hbk _).2.1 ?_); rintro e w' ⟨rfl, rfl⟩ | (with_reducible refine Calls.mono (hbk _).2.2 ?_); rintro e w' ⟨rfl, rfl⟩)
    | fail)
  go_ret
  exact Ret.mk rfl HB.out
end Go.Proofs.Ythmjkgpfnpdddaa
