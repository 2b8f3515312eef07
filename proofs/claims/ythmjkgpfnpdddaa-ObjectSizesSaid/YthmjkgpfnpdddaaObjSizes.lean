/- The walk over ObjectSizes. -/
import Derived.Test.YthmjkgpfnpdddaaObjWakes
import Derived.Deep.OwnRows
namespace Go.Proofs.Ythmjkgpfnpdddaa
set_option linter.unusedSimpArgs false
set_option linter.unusedVariables false
open Go.RowKit Go.ChangeShapes Go.WideShapes Go.Sort

/-- a body of bytes that rise, as far as it is filled -/
def rising (v : Int) (k i : Nat) : List UInt8 := (List.range i).map (fun j => u8 (v + (j : Nat))) ++ List.replicate (k - i) 0
theorem rising_len (v : Int) {k i : Nat} (h : i ≤ k) : (rising v k i).length = k := by simp [rising]; omega
theorem rising_set (v : Int) {k i : Nat} (h : i < k) : (rising v k i).set i (u8 (v + (i : Nat))) = rising v k (i + 1) := by
  unfold rising
  rw [List.set_append_right _ _ (by simp)]
  rw [List.length_map, List.length_range, Nat.sub_self, List.range_succ, List.map_append, List.append_assoc]
  congr 1
  rw [show k - i = (k - (i + 1)) + 1 by omega, List.replicate_succ]
  rfl
theorem rising_cells (v : Int) {k i : Nat} (h : i < k) : (bvs (rising v k i)).toArray.setIfInBounds i (.int .u8 ((v + (i : Nat)) % 256)) = (bvs (rising v k (i + 1))).toArray := by
  rw [← rising_set v h, ← bv_u8]
  simp [bvs, List.map_set]
theorem make_bytes {k : Nat} (h : k ≤ 2000) (w : World) : (Instr.makeSlice 22 (.int .i64 k) (.int .i64 k)).run Try.prog w = .ok (.slice (some ⟨w.heap.size, 0, none⟩) k k) (w.alloc (.cells (bvs (rising 0 k 0)).toArray 5)) := by
  have := run_make_row' (P := Try.prog) 22 5 (.int .u8 0) 1 Try.underlying22 (by kernel_rfl) rfl .i64 .i64 k (by omega) (by omega) w
  rw [this, show #[Value.int .u8 0] = (List.replicate 1 (Value.int .u8 0)).toArray from rfl, made_rep (by omega)]
  have e : bvs (rising 0 k 0) = List.replicate k (.int .u8 0) := by
    unfold rising bvs
    simp only [List.range_zero, List.map_nil, List.nil_append, Nat.sub_zero, List.map_replicate]
    rfl
  rw [e]
theorem rising_zero (v v' : Int) (k : Nat) : rising v k 0 = rising v' k 0 := rfl
theorem rising_at (v : Int) {k j : Nat} (h : j < k) : at8 (rising v k k) j = u8 (v + (j : Nat)) := by
  unfold at8 rising
  rw [Nat.sub_self, List.replicate_zero, List.append_nil, List.getElem?_map, List.getElem?_range h]
  rfl
theorem frame_at {body : List UInt8} {k : Nat} (hl : body.length = k) (h : k ≤ 1000) (i : Nat) : at8 (frameB 4 body).flatten i = if i = 0 then 4 else if 3 ≤ i ∧ i < 3 + k then at8 body (i - 3) else if k + 7 ≤ i then 0 else at8 (frameB 4 body).flatten i := by
  have hok : obOk 4 body.length = true := obOk_iff.2 ⟨by omega, by omega, by omega⟩
  have hf := frame_flat hok
  have hal := obAll_len 4 body
  split
  · rename_i h0
    subst h0
    rw [hf]
    rfl
  · split
    · rename_i h0 h1
      rw [hf]
      unfold at8
      rw [List.getElem?_append_left (by omega)]
      unfold obAll
      rw [List.getElem?_append_left (by rw [obText_len]; omega)]
      unfold obText
      rw [List.getElem?_append_right (by show 3 ≤ i; omega)]
      rfl
    · split
      · rename_i h0 h1 h2
        rw [hf]
        unfold at8
        rw [List.getElem?_append_right (by omega), List.getElem?_replicate]
        split <;> rfl
      · rfl
set_option maxHeartbeats 16000000 in
set_option maxRecDepth 100000 in
theorem sizes_big {x v : Int} (x0 : 0 ≤ x) (x1 : x < 65536) (h : x % 1002 = 1001) (w : World) : Calls Try.prog 6 #[.int .u16 x, .int .u8 v] w (Ret w (.bool true)) := by
  have hbk := fun W => blocks_any 1001 W (by omega) (by omega)
  rw [show blocksN 1001 = 0 from by decide] at hbk
  have e1 : IntKind.i64.wrap x = x := wrap_small _ (by omega) (by omega)
  have e2 : x.tmod 1002 = 1001 := by rw [Int.tmod_eq_emod_of_nonneg x0]; exact h
  go_enter Try.func6, Try.ntmps6
  go_wp2_with (first
    | (go_at_call 20; go_loud (with_reducible refine Calls.mono (hbk _) ?_); rintro e w' ⟨rfl, rfl⟩)
    | (go_at_call 13; refine Calls.mono (wakes03_any _) ?_; rintro e W4 ⟨rfl, hb4⟩)
    | fail)
  go_ret
  exact Ret.mk rfl hb4
set_option maxHeartbeats 16000000 in
set_option maxRecDepth 100000 in
theorem sizes_core {x v : Int} (x0 : 0 ≤ x) (x1 : x < 65536) (v0 : 0 ≤ v) (v1 : v < 256) {k : Nat} (hk : x % 1002 = (k : Int)) (hk1 : k ≤ 1000) (w : World) : Calls Try.prog 6 #[.int .u16 x, .int .u8 v] w (Ret w (.bool true)) := by
  have hbk := fun W => blocks_any (k : Int) W (by omega) (by omega)
  have hbm := fun W => blocks_any ((k : Int) + 1) W (by omega) (by omega)
  obtain ⟨b, hb⟩ : ∃ b : Nat, blocksN (k : Int) = (b : Int) := ⟨(blocksN (k : Int)).toNat, by have := blocks_rng (k : Int); omega⟩
  obtain ⟨m, hm⟩ : ∃ b : Int, blocksN ((k : Int) + 1) = b := ⟨_, rfl⟩
  have hbe : (b : Int) = ((k : Int) + 6) / 128 + 1 := by rw [← hb]; unfold blocksN; rw [if_neg (by omega)]
  have hmw : k = 1000 ∨ (k < 1000 ∧ (m = (b : Int) ∨ (m ≠ (b : Int) ∧ m = (b : Int) + 1))) := by
    by_cases h : k = 1000
    · exact .inl h
    · refine .inr ⟨by omega, ?_⟩
      unfold blocksN at hm
      rw [if_neg (by omega)] at hm
      omega
  simp only [hb] at hbk
  simp only [hm] at hbm
  have hfl := frame_len (kind := 4) (body := rising v k k) (obOk_iff.2 ⟨by omega, by omega, by rw [rising_len v (Nat.le_refl _)]; exact hk1⟩)
  rw [rising_len v (Nat.le_refl _), hb] at hfl
  have hfr := fun W A c (h : Sl W W.heap.size 1 A k (bvs (rising v k k))) => frame_any (kind := 4) (c := c) (rising_len v (Nat.le_refl k)) W h (Nat.le_refl _)
  rw [show frameE 4 k = 0 from by unfold frameE; rw [obOk_iff.2 ⟨by omega, by omega, hk1⟩]; rfl] at hfr
  have hat := frame_at (rising_len v (Nat.le_refl k)) hk1
  have hall := frame_all 4 (rising v k k)
  obtain ⟨F, hF⟩ : ∃ q, frameB 4 (rising v k k) = q := ⟨_, rfl⟩
  rw [hF] at hfl hall
  simp only [hF] at hfr hat
  have HF := Lib.hid (And.intro hfl (And.intro hall hat))
  clear hb hm hF hfl hall hat
  have e1 : IntKind.i64.wrap x = x := wrap_small _ (by omega) (by omega)
  have e2 : x.tmod 1002 = (k : Int) := by rw [Int.tmod_eq_emod_of_nonneg x0]; exact hk
  have e3 : IntKind.i64.wrap (k : Int) = (k : Int) := wrap_small _ (by omega) (by omega)
  have e4 : IntKind.i64.wrap ((k : Int) + 1) = (k : Int) + 1 := wrap_small _ (by omega) (by omega)
  have e5 : IntKind.i64.wrap ((k : Int) + 7) = (k : Int) + 7 := wrap_small _ (by omega) (by omega)
  have e6 : IntKind.i64.wrap ((b : Int) * 128) = (b : Int) * 128 := wrap_small _ (by omega) (by omega)
  have e7 : IntKind.i64.wrap ((b : Int) - 1) = (b : Int) - 1 := wrap_small _ (by omega) (by omega)
  have e8 : IntKind.i64.wrap (((b : Int) - 1) * 128) = ((b : Int) - 1) * 128 := wrap_small _ (by omega) (by omega)
  have e9 : IntKind.i64.wrap ((b : Int) + 1) = (b : Int) + 1 := wrap_small _ (by omega) (by omega)
  have g1 : ¬ (b : Int) * 128 < (k : Int) + 7 := by omega
  have g2 : ¬ (k : Int) + 7 ≤ ((b : Int) - 1) * 128 := by omega
  have hmk := fun W => make_bytes (k := k) (by omega) W
  have HE := Lib.hid hbe
  clear hbe
  go_enter Try.func6, Try.ntmps6
  go_upto_region 6 with (first
    | (go_at_call 20; first | (with_reducible refine Calls.mono (hbk _) ?_); rintro e w' ⟨rfl, rfl⟩ | (with_reducible refine Calls.mono (hbm _) ?_); rintro e w' ⟨rfl, rfl⟩)
    | fail)
  go_cut [56] from 29 to 56 (fun s wx => s = .bool false ∧ wx = w)
  case first =>
    have d1 : decide ((b : Int) * 128 < (k : Int) + 7) = false := decide_eq_false (by omega)
    have d2 : decide ((k : Int) + 7 ≤ ((b : Int) - 1) * 128) = false := decide_eq_false (by omega)
    rcases hmw with h | ⟨h, rfl | ⟨h2, rfl⟩⟩
    · subst h
      go_wp2_with fail
      go_meet
      exact ⟨vbool (by simp; omega), rfl⟩
    · have d3 : decide ((k : Int) < 1000) = true := decide_eq_true (by omega)
      go_wp2_with fail
      go_meet
      exact ⟨rfl, rfl⟩
    · have d3 : decide ((k : Int) < 1000) = true := decide_eq_true (by omega)
      have d4 : ((b : Int) + 1 == (b : Int)) = false := by simp; omega
      go_wp2_with fail
      go_meet
      exact ⟨rfl, rfl⟩
  case rest =>
    obtain ⟨rfl, rfl⟩ := hcut
    clear hmw e7 e8 e9 g1 g2 hbk hbm e4
    go_wp2_with fail
    obtain ⟨W1, hW1⟩ : ∃ q, wc.alloc (.cells (bvs (rising 0 k 0)).toArray 5) = q := ⟨_, rfl⟩
    have b1 : W1.heap[wc.heap.size]? = some (.cells (bvs (rising v k 0)).toArray 5) := by rw [← hW1]; exact heap_alloc_new _ _
    have hB1 : Below wc.heap.size wc W1 := by rw [← hW1]; exact (Below.refl _ _).alloc (Nat.le_refl _) _
    try rw [hW1]
    clear hW1 hmk
    go_loopw [9] (fun si wr => ∃ i : Nat, i ≤ k ∧ si = .int .i64 i ∧ wr.heap[wc.heap.size]? = some (.cells (bvs (rising v k i)).toArray 5) ∧ Below wc.heap.size wc wr) (fun i _ => k - (intOf i).toNat)
    case atStart => exact ⟨0, by omega, rfl, b1, hB1⟩
    case round =>
      clear b1 hB1
      obtain ⟨i, hi, rfl, hcs, hbr⟩ := hrel
      have hrs := rising_len v hi
      by_cases hlt : i < k
      · have hi1 : (i : Int) < (k : Int) := by omega
        have f1 : IntKind.u8.wrap ((i : Int)) = (i : Int) % 256 := rfl
        have f2 : IntKind.u8.wrap (v + (i : Int) % 256) = (v + (i : Nat)) % 256 := by show (v + (i : Int) % 256) % 256 = _; omega
        obtain ⟨u0, kc⟩ : ∃ u, wr.cell? ⟨wc.heap.size, i, none⟩ = some u := ⟨_, by rw [cell_of_row wr wc.heap.size i _ _ _ hcs, List.getElem?_toArray, List.getElem?_eq_getElem (by rw [bvs_len, hrs]; exact hlt)]⟩
        have kf : wr.frozen? ⟨wc.heap.size, i, none⟩ = false := blk_frozen hcs _
        have hrc := rising_cells v hlt
        have HC := Lib.hid (And.intro hcs (And.intro hbr hrc))
        clear hcs hbr hrc
        go_wp2_with fail
        refine ⟨⟨i + 1, by omega, by go_num, ?_, HC.out.2.1.setCell (Nat.le_refl _) _⟩, by simp [intOf]; omega⟩
        have := blk_set HC.out.1 i (Value.int .u8 ((v + (i : Nat)) % 256))
        rw [HC.out.2.2] at this
        exact this
      · obtain rfl : i = k := by omega
        have hi1 : ¬ (i : Int) < (i : Int) := by omega
        have hsb : Sl wr wr.heap.size 1 (some ⟨wc.heap.size, 0, none⟩) i (bvs (rising v i i)) := by
          have := Sl.new (sz := 1) (n := i) hcs (by simp [bvs_len, hrs])
          exact this
        have hfr' := hfr wr _ i hsb
        have l8 := (Array.getElem?_eq_some_iff.1 hcs).1
        have HC := Lib.hid (And.intro hcs hbr)
        clear hcs hbr hfr hsb
        go_wp2_with fail
        refine Calls.mono hfr' ?_
        rintro e Y ⟨A10, n10, c10, rfl, hn10, hnc10, hcm10, hs10, hb10⟩
        clear hfr'
        obtain ⟨hfl, hall, hat⟩ := HF.out
        obtain rfl : n10 = b := by omega
        have hbat : BAt Y Y.heap.size A10 n10 c10 F := ⟨hall, hn10.symm, hs10, hnc10⟩
        have hbe := HE.out
        have hn10' : 1 ≤ n10 := by omega
        have hrow := bBlk hb10 l8 HC.out.1
        have l9 := (Array.getElem?_eq_some_iff.1 hrow).1
        have hBY := HC.out.2.trans (hb10.mono HC.out.2.size)
        obtain ⟨pb, ob, rfl, hpb, -⟩ := hbat.sl.at_ (by omega)
        have HY := Lib.hid (And.intro hbat (And.intro hrow (And.intro hBY hat)))
        have n8 : n10 ≤ 8 := by omega
        have hkb : (i : Int) + 7 ≤ (n10 : Int) * 128 := by omega
        clear hfl hall hat hbat hrow hBY hs10 hb10 hn10 hbe HE HF HC hrs
        obtain ⟨L, hL⟩ : ∃ L : Nat, n10 * 128 = L := ⟨_, rfl⟩
        have e6' : IntKind.i64.wrap ((n10 : Int) * 128) = (L : Int) := by rw [e6]; omega
        have hLk : i + 7 ≤ L := by omega
        have e10 : IntKind.i64.wrap (3 + (i : Int)) = 3 + (i : Int) := wrap_small _ (by omega) (by omega)
        have HL := Lib.hid hL
        clear e6 hkb hL
        go_wp2_with fail
        go_loopw [12] (fun si wr => ∃ j : Nat, j ≤ L ∧ si = .int .i64 j ∧ wr = Y) (fun s _ => L - (intOf s).toNat)
        case atStart => exact ⟨0, by omega, rfl, rfl⟩
        case round =>
          obtain ⟨j, hj, rfl, rfl⟩ := hrel
          by_cases hlt : j < L
          · have hL := HL.out
            have kx := flat_cell HY.out.1 rfl (i := j) (by omega)
            have hat := HY.out.2.2.2 j
            have hrow := HY.out.2.1
            obtain ⟨I, hI⟩ : ∃ I, j / 128 = I := ⟨_, rfl⟩
            obtain ⟨J, hJ⟩ : ∃ J, j % 128 = J := ⟨_, rfl⟩
            have hIJ : ob + j = ob + I * 128 + J := by omega
            have hIn : I < n10 := by omega
            have hJn : J < 128 := by omega
            rw [hIJ] at kx
            have d1 : (j : Int).tdiv 128 = (I : Int) := by rw [Int.tdiv_eq_ediv_of_nonneg (by omega)]; omega
            have d2 : (j : Int).tmod 128 = (J : Int) := by rw [Int.tmod_eq_emod_of_nonneg (by omega)]; omega
            have d3 : (j : Int) / 128 = (I : Int) := by omega
            have d4 : (j : Int) % 128 = (J : Int) := by omega
            have d5 : (I : Int) < (n10 : Int) := by omega
            have d6 : (J : Int) < 128 := by omega
            have d7 : IntKind.i64.wrap (I : Int) = I := wrap_small _ (by omega) (by omega)
            have d8 : IntKind.i64.wrap (J : Int) = J := wrap_small _ (by omega) (by omega)
            have hi1 : (j : Int) < (L : Int) := by omega
            obtain ⟨B, hB⟩ : ∃ q, at8 F.flatten j = q := ⟨_, rfl⟩
            rw [hB] at kx hat
            have hB8 := B.toNat_lt
            clear hI hJ hIJ hB hL
            have hways : (j = 0) ∨ (1 ≤ j ∧ j < 3) ∨ (3 ≤ j ∧ j < 3 + i) ∨ (3 ≤ j ∧ 3 + i ≤ j ∧ j < i + 7) ∨ (3 ≤ j ∧ 3 + i ≤ j ∧ i + 7 ≤ j) := by omega
            rcases hways with h | ⟨h1, h2⟩ | ⟨h1, h2⟩ | ⟨h1, h2, h3⟩ | ⟨h1, h2, h3⟩
            · rw [if_pos h] at hat
              subst hat
              clear hrow
              replace kx : wr.cell? ⟨pb, ob + I * 128 + J, none⟩ = some (.int .u8 4) := kx
              have q1 : ¬ (3 : Int) ≤ (j : Int) := by omega
              have q2 : ¬ (i : Int) + 7 ≤ (j : Int) := by omega
              have q3 : ((j : Int) == 0) = true := by simp; omega
              have hj0 := Lib.hid h
              clear h
              go_wp2_with fail
              exact ⟨⟨j + 1, by omega, by go_num, by first | rfl | trivial⟩, by simp [intOf]; omega⟩
            · clear hat hrow
              have q1 : ¬ (3 : Int) ≤ (j : Int) := by omega
              have q2 : ¬ (i : Int) + 7 ≤ (j : Int) := by omega
              have q3 : ((j : Int) == 0) = false := by simp; omega
              go_wp2_with fail
              exact ⟨⟨j + 1, by omega, by go_num, by first | rfl | trivial⟩, by simp [intOf]; omega⟩
            · rw [if_neg (by omega), if_pos ⟨h1, h2⟩] at hat
              obtain ⟨Q, hQ⟩ : ∃ Q, j - 3 = Q := ⟨_, rfl⟩
              have hQi : Q < i := by omega
              have w110 : IntKind.i64.wrap ((j : Int) - 3) = (Q : Int) := by rw [wrap_small _ (by omega) (by omega)]; omega
              rw [hQ] at hat
              have kb : wr.cell? ⟨wc.heap.size, Q, none⟩ = some (.int .u8 (B.toNat : Int)) := by
                refine blk_cell hrow ?_
                rw [hat, List.getElem?_toArray]
                show ((rising v i i).map bv)[Q]? = _
                have hr := rising_len v (Nat.le_refl i)
                rw [List.getElem?_map, List.getElem?_eq_getElem (by omega)]
                unfold at8
                rw [List.getElem?_eq_getElem (by omega)]
                rfl
              have q1 : (3 : Int) ≤ (j : Int) := by omega
              have q2 : ¬ (i : Int) + 7 ≤ (j : Int) := by omega
              have q3 : ((j : Int) == 0) = false := by simp; omega
              have q4 : (j : Int) < 3 + (i : Int) := by omega
              have q5 : (Q : Int) < (i : Int) := by omega
              clear hat hrow hQ
              go_wp2_with fail
              exact ⟨⟨j + 1, by omega, by go_num, by first | rfl | trivial⟩, by simp [intOf]; omega⟩
            · clear hat hrow
              have q1 : (3 : Int) ≤ (j : Int) := by omega
              have q2 : ¬ (i : Int) + 7 ≤ (j : Int) := by omega
              have q3 : ((j : Int) == 0) = false := by simp; omega
              have q4 : ¬ (j : Int) < 3 + (i : Int) := by omega
              go_wp2_with fail
              exact ⟨⟨j + 1, by omega, by go_num, by first | rfl | trivial⟩, by simp [intOf]; omega⟩
            · rw [if_neg (by omega), if_neg (by omega), if_pos h3] at hat
              subst hat
              clear hrow
              replace kx : wr.cell? ⟨pb, ob + I * 128 + J, none⟩ = some (.int .u8 0) := kx
              have q1 : (3 : Int) ≤ (j : Int) := by omega
              have q2 : (i : Int) + 7 ≤ (j : Int) := by omega
              have q3 : ((j : Int) == 0) = false := by simp; omega
              have q4 : ¬ (j : Int) < 3 + (i : Int) := by omega
              go_wp2_with fail
              exact ⟨⟨j + 1, by omega, by go_num, by first | rfl | trivial⟩, by simp [intOf]; omega⟩
          · obtain rfl : j = L := by omega
            have hi1 : ¬ (j : Int) < (j : Int) := by omega
            go_wp2_with (first
              | (go_at_call 13; refine Calls.mono (wakes03_any _) ?_; rintro e W4 ⟨rfl, hb4⟩)
              | fail)
            go_ret
            exact Ret.mk rfl (HY.out.2.2.1.trans (hb4.mono HY.out.2.2.1.size))
set_option maxRecDepth 100000 in
theorem objectSizes_walk {H : Type} {enc : TypeId × Value → H} {W : World} {base : Nat} {v0 v1 : Value} {d0 d1 : DataW H} {p0 p1 : List MemPlace}
    (k0 : Value.okWide Try.prog W .any base 44 v0) (h0 : DataW.Trod enc Try.prog W 0 (fun _ => true) true 44 v0 d0 p0)
    (k1 : Value.okWide Try.prog W .any base 5 v1) (h1 : DataW.Trod enc Try.prog W 0 (fun _ => true) true 5 v1 d1 p1)
    : Calls Try.prog 6 #[v0, v1] W fun e W' => e = .returned (.bool true) ∧ Below W.heap.size W W' := by
  obtain ⟨x, rfl, _, _, wx⟩ := open_int Try.underlying44 k0 h0
  obtain ⟨v, rfl, _, _, wv⟩ := open_int Try.underlying5 k1 h1
  have hx := wf_u16 wx
  have hv := wf_u8 wv
  by_cases h : x % 1002 = 1001
  · exact sizes_big hx.1 (by omega) h W
  · exact sizes_core hx.1 (by omega) hv.1 (by omega) (k := (x % 1002).toNat) (by omega) (by omega) W
end Go.Proofs.Ythmjkgpfnpdddaa
