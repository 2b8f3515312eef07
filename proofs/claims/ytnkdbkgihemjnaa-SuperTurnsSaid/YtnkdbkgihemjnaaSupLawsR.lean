/- The walk over SuperTurns, and the plain law that it rests on. (s4/turns.py writes it.) -/
import Derived.Test.YtnkdbkgihemjnaaSupArg
import Derived.Test.YtnkdbkgihemjnaaSupTorn
namespace Go.Proofs.Ytnkdbkgihemjnaa
set_option linter.unusedSimpArgs false
set_option linter.unusedVariables false
open Go.RowKit Go.ChangeShapes Go.WideShapes Go.Sort

def tS (g i : Nat) : SP := ⟨g + i, 16, (i : Int) + 2, List.replicate 32 0, 3 :: List.replicate 15 0⟩
theorem tS_ok {g i : Nat} (hg : g ≤ 1000000) (hi : i ≤ 7) : (tS g i).Ok := by
  refine ⟨?_, ?_, ?_, rfl, rfl⟩
  · show g + i < 4294967296; omega
  · show -9223372036854775808 ≤ (16 : Int) ∧ (16 : Int) ≤ 9223372036854775807; omega
  · show -9223372036854775808 ≤ (i : Int) + 2 ∧ (i : Int) + 2 ≤ 9223372036854775807; omega
theorem tS_bits (g i : Nat) : (tS g i).bits = true := by
  have h : sF.bits = true := by decide +kernel
  exact h
theorem tS_good {g i : Nat} (h1 : 1 ≤ g) (hg : g ≤ 1000000) (hi : i ≤ 7) : (tS g i).good = true := by
  unfold SP.good
  rw [tS_bits, Bool.and_true]
  show decide (1 ≤ g + i ∧ g + i < 1073741824 ∧ (16 : Int) ≤ 16 ∧ (16 : Int) ≤ 128 ∧ ((i : Int) + 2 = 0 ∨ (2 ≤ (i : Int) + 2 ∧ (i : Int) + 2 < 16))) = true
  exact decide_eq_true (by omega)
/-- block g is written: whole -/
theorem put_inv {d : DS} (hf : d.Fresh) (hl : d.bl.length = 16) {s : SP} (hs : s.Ok) (hg : s.good = true) (hb : s.blocks = 16)
    (h0 : Tail0 (d.blk 0)) (h1 : Tail0 (d.blk 1)) (ho : isB 16 (1 - s.gen % 2) (d.blk (1 - s.gen % 2)) = true → (decP (d.blk (1 - s.gen % 2))).gen < s.gen) :
    d.putE s = 0 ∧ Inv7 (d.putS s) s ∧ (d.putS s).done = d.done + 2 ∧ (d.putS s).blk (1 - s.gen % 2) = d.blk (1 - s.gen % 2) := by
  obtain ⟨p1, p2⟩ := hf.put (by omega) hg (by rw [hl, hb]; rfl)
  have hk : s.gen % 2 < d.bl.length := by omega
  have hne : s.gen % 2 ≠ 1 - s.gen % 2 := by omega
  have b1 : (⟨d.bl.set (s.gen % 2) s.enc, [], -1, d.done + 2, false⟩ : DS).blk (s.gen % 2) = s.enc := blk_set_same hk _
  have b2 : (⟨d.bl.set (s.gen % 2) s.enc, [], -1, d.done + 2, false⟩ : DS).blk (1 - s.gen % 2) = d.blk (1 - s.gen % 2) := blk_set_other hne _
  have hE := tail0_enc hs hg
  rw [p2]
  refine ⟨p1, ⟨fresh_mk _ _, by show (d.bl.set _ _).length = 16; rw [List.length_set]; exact hl, hs, hg, hb, b1, by rw [b2]; exact ho, ?_, ?_⟩, rfl, b2⟩
  · rcases Nat.mod_two_eq_zero_or_one s.gen with e | e
    · rw [e] at b1 ⊢; rw [b1]; exact hE
    · rw [e] at b2 ⊢; rw [show (1 : Nat) - 1 = 0 from rfl] at b2; rw [b2]; exact h0
  · rcases Nat.mod_two_eq_zero_or_one s.gen with e | e
    · rw [e] at b2 ⊢; rw [show (1 : Nat) - 0 = 1 from rfl] at b2; rw [b2]; exact h1
    · rw [e] at b1 ⊢; rw [b1]; exact hE
/-- how the disk stands behind k of them -/
def TI (g : Nat) (d : DS) : Nat → Prop
  | 0 => d = DS.new 16
  | k + 1 => Inv7 d (tS g k) ∧ (1 ≤ k → d.blk (1 - (tS g k).gen % 2) = (tS g (k - 1)).enc)
theorem TI.put {g : Nat} (h1 : 1 ≤ g) (hg : g ≤ 1000000) {d : DS} {k : Nat} (hk : k ≤ 7) (h : TI g d k) : d.putE (tS g k) = 0 ∧ TI g (d.putS (tS g k)) (k + 1) ∧ (d.putS (tS g k)).done = d.done + 2 := by
  have ok := tS_ok hg hk
  have gd := tS_good h1 hg hk
  match k, h with
  | 0, h =>
    have h : d = DS.new 16 := h
    subst h
    have hz : ∀ j, (DS.new 16).blk j = zblk := fun j => by
      show (List.replicate 16 zblk)[j]?.getD zblk = zblk
      rw [List.getElem?_replicate]; split <;> rfl
    obtain ⟨a, b, c, -⟩ := put_inv (fresh_new 16) rfl ok gd rfl (by rw [hz]; exact tail0_z) (by rw [hz]; exact tail0_z) (fun e => by rw [hz, isB_z] at e; cases e)
    exact ⟨a, ⟨b, fun e => absurd e (by decide)⟩, c⟩
  | k + 1, ⟨hi, _⟩ =>
    have gg : (tS g (k + 1)).gen = (tS g k).gen + 1 := by show g + (k + 1) = g + k + 1; omega
    have hm : 1 - (tS g (k + 1)).gen % 2 = (tS g k).gen % 2 := by omega
    obtain ⟨a, b, c, e⟩ := put_inv hi.fr hi.len ok gd rfl hi.t0 hi.t1 (fun _ => by rw [hm, hi.at_, dec_enc hi.ok hi.good]; omega)
    refine ⟨a, ⟨b, fun _ => ?_⟩, c⟩
    rw [e, hm, hi.at_]; rfl
/-- a block that is filled is no superblock -/
theorem fill_no (x : UInt8) (n k : Nat) : isB n k (fillB x) = false := by
  have h : ∀ i, i < 128 → at8 (fillB x) i = x := fun i hi => by
    unfold at8 fillB; rw [List.getElem?_replicate, if_pos hi]; rfl
  have hn : (decP (fillB x)).nums = false := by
    unfold SP.nums decP
    rw [h 1 (by omega), h 2 (by omega), h 3 (by omega), h 4 (by omega), h 5 (by omega), h 6 (by omega)]
    exact decide_eq_false (by simp only; omega)
  have : isS (fillB x) = false := by
    unfold isS SP.good
    rw [hn]; rfl
  unfold isB
  rw [this]; rfl
theorem lo_two {bl : List Blk} {j j' : Nat} {b b' : Blk} {n k : Nat} (hk : k < bl.length) : (⟨bl, [(j, b), (j', b')], -1, n, false⟩ : DS).read (k : Int) = if j' = k then b' else if j = k then b else bl[k]?.getD zblk := by
  have hi : (⟨bl, [(j, b), (j', b')], -1, n, false⟩ : DS).inB (k : Int) = true := DS.inB_iff.2 ⟨by omega, by show (k : Int) < (bl.length : Int); omega⟩
  unfold DS.read
  rw [if_pos hi]
  simp [lastOf', DS.blk]
/-- the newest one spoilt: the one ahead; that one spoilt, too: none -/
theorem spoil {g : Nat} (h1 : 1 ≤ g) (hg : g ≤ 1000000) {d : DS} {k : Nat} (hk : k + 1 ≤ 7) (h : TI g d (k + 2)) (x : UInt8) :
    (d.write ((((tS g (k + 1)).gen % 2 : Nat)) : Int) (fillB x)).newest = tS g k ∧ (d.write ((((tS g (k + 1)).gen % 2 : Nat)) : Int) (fillB x)).newestE = 0 ∧
    ((d.write ((((tS g (k + 1)).gen % 2 : Nat)) : Int) (fillB x)).write ((((tS g k).gen % 2 : Nat)) : Int) zblk).newestE = 13 := by
  obtain ⟨hi, ho⟩ := h
  have ho := ho (by omega)
  rw [show k + 1 - 1 = k from rfl] at ho
  obtain ⟨bl, lo, fu, dn, dw⟩ := d
  obtain ⟨hd, hfu, hl⟩ := hi.fr
  have hlen := hi.len
  simp only at hd hfu hl hlen
  subst hd hfu hl
  have gg : (tS g (k + 1)).gen = (tS g k).gen + 1 := by show g + (k + 1) = g + k + 1; omega
  obtain ⟨a, ha⟩ : ∃ a, (tS g (k + 1)).gen % 2 = a := ⟨_, rfl⟩
  have hb : (tS g k).gen % 2 = 1 - a := by omega
  have ha2 : a < 2 := by omega
  rw [ha] at ho ⊢
  rw [hb]
  have okk := tS_ok (g := g) (i := k) hg (by omega)
  have gdk := tS_good (i := k) h1 hg (by omega)
  have hw1 : (⟨bl, [], -1, dn, false⟩ : DS).write (a : Int) (fillB x) = ⟨bl, [(a, fillB x)], -1, dn + 1, false⟩ := by
    have := ((fresh_mk bl dn).write (k := a) (by show a < bl.length; omega) (fillB x)).2
    exact this
  rw [hw1]
  have hw2 : (⟨bl, [(a, fillB x)], -1, dn + 1, false⟩ : DS).write ((1 - a : Nat) : Int) zblk = ⟨bl, [(a, fillB x), (1 - a, zblk)], -1, dn + 2, false⟩ := by
    have hin : (⟨bl, [(a, fillB x)], -1, dn + 1, false⟩ : DS).inB ((1 - a : Nat) : Int) = true := DS.inB_iff.2 ⟨by omega, by show ((1 - a : Nat) : Int) < (bl.length : Int); omega⟩
    unfold DS.write
    rw [if_pos hin]
    rfl
  rw [hw2]
  have hE : isB 16 (1 - a) (tS g k).enc = true := isB_enc okk gdk rfl hb
  have hdk := dec_enc okk gdk
  have hblk : bl[1 - a]?.getD zblk = (tS g k).enc := ho
  have best1 : (⟨bl, [(a, fillB x)], -1, dn + 1, false⟩ : DS).best = tS g k := by
    rw [best_two, read_one (by omega), read_one (by omega)]
    show two bl.length _ _ = _
    rw [hlen]
    rcases (show a = 0 ∨ a = 1 by omega) with rfl | rfl
    · rw [if_pos rfl, if_neg (by decide)]
      rw [show (1 : Nat) - 0 = 1 from rfl] at hblk hE
      have g1 := isB_gen hE
      rw [hblk, two_yes hE (by rw [one0_no (fill_no _ _ _), sp0_gen]; omega), hdk]
    · rw [if_neg (by decide), if_pos rfl]
      rw [show (1 : Nat) - 1 = 0 from rfl] at hblk hE
      rw [hblk, two_no (fill_no _ _ _), one0_yes hE, hdk]
  have best2 : (⟨bl, [(a, fillB x), (1 - a, zblk)], -1, dn + 2, false⟩ : DS).best = sp0 := by
    rw [best_two, lo_two (by omega), lo_two (by omega)]
    show two bl.length _ _ = _
    rcases (show a = 0 ∨ a = 1 by omega) with rfl | rfl
    · rw [if_neg (by decide), if_pos rfl, if_pos rfl, two_no (isB_z _ _), one0_no (fill_no _ _ _)]
    · rw [if_pos rfl, if_neg (by decide), if_pos rfl, two_no (fill_no _ _ _), one0_no (isB_z _ _)]
  have g1 := (good_nums gdk).1
  unfold DS.newest DS.newestE
  rw [best1, best2]
  refine ⟨rfl, ?_, rfl⟩
  show (if (tS g k).gen = 0 then (13 : Int) else 0) = 0
  rw [if_neg (by omega)]
theorem built_bm3 : Try.prog.built 36 [(0, .int .u8 3)] = some (bvs (3 :: List.replicate 15 0)).toArray := by kernel_rfl
theorem built_tS (g i : Nat) : Try.prog.built 38 [(0, .int .u32 ((g + i : Nat) : Int)), (1, .int .i64 16), (2, .int .i64 ((i : Int) + 2)), (4, .agg (bvs (3 :: List.replicate 15 0)).toArray)] = some (tS g i).cells.toArray := by kernel_rfl
theorem TI.lo {g : Nat} {d : DS} {k : Nat} (h : TI g d k) : d.lo.length = 0 := by
  match k, h with
  | 0, h =>
    have h : d = DS.new 16 := h
    rw [h]; rfl
  | k + 1, ⟨hi, _⟩ => rw [hi.fr.lo]; rfl
theorem wordsR : ∃ cb : Array Value, Try.prog.built 36 [(0, .int .u8 3)] = some cb ∧ ∀ g i : Nat, Try.prog.built 38 [(0, .int .u32 ((g + i : Nat) : Int)), (1, .int .i64 16), (2, .int .i64 ((i : Int) + 2)), (4, .agg cb)] = some (tS g i).cells.toArray :=
  ⟨_, built_bm3, built_tS⟩
set_option maxHeartbeats 16000000 in
set_option maxRecDepth 100000 in
theorem superTurns_core (f : Nat) (hf : f < 4294967296) (n0 n1 : UInt8) (w : World) : Calls Try.prog 13 #[.int .u32 (f : Int), .agg #[.int .u8 (n0.toNat : Int), .int .u8 (n1.toNat : Int)]] w (Ret w (.bool true)) := by
  obtain ⟨cb, bb, bT⟩ := wordsR
  have hn0 := n0.toNat_lt
  have hn1 := n1.toNat_lt
  have hb0 : Try.prog.built 38 [] = some sp0.cells.toArray := built_sp0
  have i0 := sp_info sp0_ok
  obtain ⟨z0, hz0⟩ : ∃ z, sp0.cells.toArray = z := ⟨_, rfl⟩
  have HZ0 := Lib.hid hz0
  have hZ : ZeroIs Try.prog 38 z0 := by rw [← hz0]; exact spZ
  have ho0 : z0.all (·.oneCell') = true := by rw [← hz0]; exact all_oneCell_toArray (one_sp _)
  have s0 : z0.size = 51 := by rw [← hz0, List.size_toArray, sp0_ok.len]
  rw [hz0] at hb0 i0
  clear hz0
  go_enter Try.func13, Try.ntmps13
  go_upto_region 1 with (fail)
  obtain ⟨W, hW⟩ : ∃ W, w.alloc (.cells #[.int .u8 (n0.toNat : Int), .int .u8 (n1.toNat : Int)] 101) = W := ⟨_, rfl⟩
  try rw [hW]
  have a3 : W.heap[w.heap.size]? = some (.cells #[.int .u8 (n0.toNat : Int), .int .u8 (n1.toNat : Int)] 101) := by rw [← hW]; exact heap_alloc_new _ _
  have hB : Below w.heap.size w W := by rw [← hW]; exact (Below.refl _ _).alloc (Nat.le_refl _) _
  clear hW
  have hzW : w.heap.size < W.heap.size := (Array.getElem?_eq_some_iff.1 a3).1
  go_wp2_with fail
  refine (new_any 16 (by omega) (by omega) _).mono ?_
  rintro e w1 ⟨rfl, hk, hb1⟩
  have q3 : Rw w1 (W.heap.size + 1) W.heap.size (.slice none 0 0) w.heap.size #[.int .u8 (n0.toNat : Int), .int .u8 (n1.toNat : Int)] 101 := ⟨bBlk hb1 (Array.getElem?_eq_some_iff.1 a3).1 a3, fun e => by have h1 := (hk.own_ge _ e).1; have h2 := (Array.getElem?_eq_some_iff.1 a3).1; omega⟩
  replace hB := hB.trans (hb1.mono hB.size)
  clear a3 hb1
  obtain ⟨g, hg⟩ : ∃ g, 1 + f % 1000000 = g := ⟨_, rfl⟩
  have hg1 : 1 ≤ g := by omega
  have hg2 : g ≤ 1000000 := by omega
  obtain ⟨m, hm⟩ : ∃ m, n0.toNat % 6 = m := ⟨_, rfl⟩
  have hm6 : m < 6 := by omega
  have e1 : (f : Int) % 1000000 = ((g - 1 : Nat) : Int) := by omega
  have e2 : ((n0.toNat : Nat) : Int) % 6 = (m : Int) := by omega
  have e3 : (1 : Int) + ((g - 1 : Nat) : Int) = (g : Int) := by omega
  have e4 : (2 : Int) + (m : Int) = ((m + 2 : Nat) : Int) := by omega
  have d30 := blk_cell q3.at_ (k := 0) rfl
  unfold dp
  go_upto_region 6 with (fail)
  clear e1 e2 e3 e4 d30
  obtain ⟨Y9, hY, a9, bY⟩ := newRow w1 z0 z0 38
  have q9 := Rw.new hk (Nat.le_refl _) a9
  have hlt9 := hk.lt.1
  replace q3 := q3.below bY
  replace hk := hk.below bY
  replace hB := hB.trans (bY.mono hB.size)
  go_upto_region 7 with (first
    | (refine wpList_built rfl 38 #[] rfl (cs := z0) (by simp only [List.map_toArray, List.map_nil]; exact hb0) ?_)
    | (refine wpList_new rfl hZ rfl ?_)
    | (refine wpList_store_row rfl 38 (.tmp 9) (.tmp 35) rfl _ z0 rfl rfl _ z0 (heap_alloc_new _ _) i0 rfl ho0 ?_)
    | fail)
  try rw [hY]
  clear hY a9 bY
  have hg9w : w.heap.size ≠ w1.heap.size := by have := q3.lt; have h2 := hlt9; omega
  obtain ⟨g9, hg9⟩ : ∃ x, w1.heap.size = x := ⟨_, rfl⟩
  rw [hg9] at hg9w hlt9
  rw [hg9] at q9 ⊢
  clear hg9
  go_wp2_with fail
  go_loopw [10] (fun i wr => ∃ (k : Nat) (d : DS) (v : Value) (X : Array Value), i = .int .i64 k ∧ k ≤ m + 2 ∧ Dk wr W.heap.size (W.heap.size + 1) W.heap.size v d ∧ TI g d k ∧ d.done ≤ 2 * k ∧ X.size = 51 ∧ (1 ≤ k → X = (tS g (k - 1)).cells.toArray) ∧ Rw wr (W.heap.size + 1) W.heap.size v g9 X 38 ∧ Rw wr (W.heap.size + 1) W.heap.size v w.heap.size #[.int .u8 (n0.toNat : Int), .int .u8 (n1.toNat : Int)] 101 ∧ Below w.heap.size w wr) (fun i _ => m + 2 - (intOf i).toNat)
  case atStart => exact ⟨0, _, _, z0, rfl, by omega, hk, rfl, Nat.le_refl _, s0, fun e => absurd e (by decide), q9, q3, hB⟩
  case round =>
    clear hk q9 q3 hB
    obtain ⟨k, d, v, X, rfl, hkm, hk, hT, hdd, hX, hXk, q9, q3, hB⟩ := hrel
    have HXK := Lib.hid hXk
    clear hXk
    by_cases hlt : k < m + 2
    · have okT := tS_ok (g := g) (i := k) hg2 (by omega)
      have gg : k ≤ 7 := by omega
      obtain ⟨t1, t2, t3⟩ := hT.put hg1 hg2 gg
      have bTk := bT g k
      have iT := sp_info okT
      have hsT := fun w => sp_same okT w
      have o1T := all_oneCell_toArray (one_sp (tS g k))
      have szT : (tS g k).cells.toArray.size = 51 := by rw [List.size_toArray, okT.len]
      have hlo := hT.lo
      have hdn7 : d.done ≤ 14 := by omega
      have bTk := bTk
      rw [show ((g + k : Nat) : Int) = (g : Int) + (k : Int) from by omega, Int.add_comm (k : Int) 2] at bTk
      have szX : X.size = (tS g k).cells.toArray.size := by rw [hX, szT]
      have sz0T : z0.size = (tS g k).cells.toArray.size := by rw [s0, szT]
      obtain ⟨cT, hcT⟩ : ∃ c, (tS g k).cells.toArray = c := ⟨_, rfl⟩
      have HCT := Lib.hid hcT
      rw [hcT] at bTk iT o1T szX szT sz0T
      have hsT2 : ∀ w, (Op.equalIn 10000 38 (.agg cT) (.agg cT)).run Try.prog w = .ok true w := by rw [← hcT]; exact hsT
      clear hsT hcT
      have g1 : (k : Int) < (m : Int) + 2 := by omega
      have gk : (k : Int) ≤ 7 := by omega
      -- s = ..
      go_upto_region 10 with (fail)
      refine wp_region_lit ?_
      iterate 18 (first | go_guarded | go_step)
      refine wpList_built rfl 36 #[(0, .const (.int .u8 3))] rfl (cs := cb) (by simp only [List.map_toArray, List.map_cons, List.map_nil]; exact bb) ?_
      (try simp only [Act.put, List.setIfInBounds_toArray, List.set_cons_zero, List.set_cons_succ])
      refine wpList_built rfl 38 #[(0, .tmp 44), (1, .const (.int .i64 16)), (2, .tmp 46), (4, .tmp 47)] rfl (cs := cT) (by simp only [List.map_toArray, List.map_cons, List.map_nil]; exact bTk) ?_
      (try simp only [Act.put, List.setIfInBounds_toArray, List.set_cons_zero, List.set_cons_succ])
      refine wpList_store_row rfl 38 (.tmp 9) (.tmp 48) rfl _ cT rfl rfl _ X q9.at_ iT szX o1T ?_
      (try simp only [Act.put, List.setIfInBounds_toArray, List.set_cons_zero, List.set_cons_succ])
      go_upto_region 11 with (fail)
      have r9 := setRow_heap wr g9 X cT 38 (0, 0) q9.at_
      have bY : But wr.heap.size (· = g9) wr (wr.setRow g9 cT) := but_setRow (X := (· = g9)) (But.refl _ _ _) rfl _
      have n9 := q9.no
      have hgw : w.heap.size ≠ g9 := hg9w
      obtain ⟨Y, hY⟩ : ∃ Y, wr.setRow g9 cT = Y := ⟨_, rfl⟩
      rw [hY] at r9 bY
      try rw [hY]
      have hbw : Below w.heap.size wr Y := bY.below hB.size (fun j e => by omega)
      replace hk : Dk Y W.heap.size (W.heap.size + 1) W.heap.size v d := hk.kept bY (Nat.le_refl _) (fun j e => e ▸ n9)
      replace q9 : Rw Y (W.heap.size + 1) W.heap.size v g9 cT 38 := ⟨r9, n9⟩
      replace q3 : Rw Y (W.heap.size + 1) W.heap.size v w.heap.size #[.int .u8 (n0.toNat : Int), .int .u8 (n1.toNat : Int)] 101 := ⟨bY.blk q3.lt (fun e => hgw e) q3.at_, q3.no⟩
      replace hB := hB.trans hbw
      clear hY r9 bY n9 hbw bTk
      -- Write
      have hw := sput_any hk (by omega) (by omega) okT
      rw [t1] at hw
      unfold dp spv at hw
      rw [HCT.out] at hw
      have q90 := q9.at_
      go_upto_region 13 with (first
        | (refine wpList_load_row rfl 38 (.tmp 9) rfl _ rfl _ cT (0, 0) _ q90 Try.underlying38 rfl iT ?_)
        | (go_at_call 19; refine Calls.mono hw ?_; rintro e X3 ⟨rfl, v3, hk3, hs3⟩)
        | fail)
      replace q9 := q9.step hs3
      replace q3 := q3.step hs3
      replace hB := hB.trans ((hs3.below hk).mono (Nat.le_of_lt hzW))
      clear hw q90 hs3 hk
      -- Newest
      obtain ⟨hI, hTn⟩ := t2
      obtain ⟨p1, p2⟩ := hI.newest
      have hnw := newest_any hk3 (by rw [hI.fr.lo]; simp)
      rw [p1, p2] at hnw
      unfold dp spv at hnw
      rw [HCT.out] at hnw
      go_wp2_with fail
      refine Calls.mono hnw ?_
      rintro e X5 ⟨rfl, hb5⟩
      replace q9 := q9.below hb5
      replace q3 := q3.below hb5
      replace hk3 := hk3.below hb5
      replace hB := hB.trans (hb5.mono hB.size)
      obtain ⟨Y5, hY, a11, bY⟩ := newRow X5 z0 cT 38
      have q11 := Rw.new hk3 (Nat.le_refl _) a11
      replace q9 := q9.below bY
      replace q3 := q3.below bY
      replace hk3 := hk3.below bY
      replace hB := hB.trans (bY.mono hB.size)
      clear hb5 bY a11
      go_upto_region 14 with (first
        | (refine wpList_new rfl hZ rfl ?_)
        | (refine wpList_store_row rfl 38 (.tmp 11) (.tmp 56) rfl _ cT rfl rfl _ z0 (heap_alloc_new _ _) iT sz0T o1T ?_)
        | fail)
      try rw [hY]
      clear hY
      have a9 := q9.at_
      have a11 := q11.at_
      refine wp_region_lit ?_
      iterate 9 (first | go_guarded | go_step)
      refine wpList_load_row_g (by simp [Region.wanted, yielded, Act.put]) 38 (.tmp 11) rfl _ rfl _ cT (0, 0) _ a11 Try.underlying38 rfl iT ?_
      (try simp only [Act.put, List.setIfInBounds_toArray, List.set_cons_zero, List.set_cons_succ])
      refine wpList_load_row_g (by simp [Region.wanted, yielded, Act.put]) 38 (.tmp 9) rfl _ rfl _ cT (0, 0) _ a9 Try.underlying38 rfl iT ?_
      (try simp only [Act.put, List.setIfInBounds_toArray, List.set_cons_zero, List.set_cons_succ])
      clear hnw
      go_wp2_with fail
      go_roundw
      case rel => exact ⟨k + 1, _, v3, cT, by go_num, by omega, hk3, ⟨hI, hTn⟩, by rw [t3]; omega, szT, fun _ => HCT.out.symm, q9, q3, hB⟩
      case measure => simp [intOf]; omega
    ·
      obtain rfl : k = m + 1 + 1 := by omega
      have hXe := HXK.out (by omega)
      rw [show m + 1 + 1 - 1 = m + 1 from rfl] at hXe
      subst hXe
      have hT2 := hT
      obtain ⟨hI, -⟩ := hT2
      obtain ⟨sp1, sp2, sp3⟩ := spoil hg1 hg2 (k := m) (by omega) hT n1
      have okA := tS_ok (g := g) (i := m + 1) hg2 (by omega)
      have okB := tS_ok (g := g) (i := m) hg2 (by omega)
      have hlo := hT.lo
      have hdn7 : d.done ≤ 14 := by omega
      have G1 : (tS g (m + 1)).gen = g + (m + 1) := rfl
      have G2 : (tS g m).gen = g + m := rfl
      have cg := blk_cell q9.at_ (sp_gen (tS g (m + 1)))
      have cr : wr.cell? ⟨g9, 2, none⟩ = some (.int .i64 (((m + 1 : Nat) : Int) + 2)) := blk_cell q9.at_ rfl
      have d31 := blk_cell q3.at_ (k := 1) rfl
      rw [G1] at cg sp1 sp2 sp3
      rw [G2] at sp3
      obtain ⟨a, ha⟩ : ∃ a, (g + (m + 1)) % 2 = a := ⟨_, rfl⟩
      obtain ⟨b, hb⟩ : ∃ b, (g + m) % 2 = b := ⟨_, rfl⟩
      rw [ha] at sp1 sp2 sp3
      rw [hb] at sp3
      have wl1 := write_done d (a : Int) (fillB n1)
      have wl2 := write_done (d.write (a : Int) (fillB n1)) (b : Int) zblk
      have hfl : ∀ W, Calls Try.prog 51 #[.int .u8 (n1.toNat : Int)] W (Ret W (.agg (bvs (fillB n1)).toArray)) := fun W => fill_any n1 W
      obtain ⟨G, hG⟩ : ∃ G, g + (m + 1) = G := ⟨_, rfl⟩
      obtain ⟨H, hH⟩ : ∃ H, g + m = H := ⟨_, rfl⟩
      obtain ⟨R1, hR1⟩ : ∃ R : Int, (((m + 1 : Nat) : Int) + 2) = R := ⟨_, rfl⟩
      obtain ⟨R2, hR2⟩ : ∃ R : Int, ((m : Int) + 2) = R := ⟨_, rfl⟩
      rw [hG] at cg ha
      rw [hR1] at cr
      rw [hH] at hb
      have hwA : IntKind.i64.wrap ((G : Int).tmod 2) = (a : Int) := by rw [Int.tmod_eq_emod_of_nonneg (by omega), wrap_small _ (by omega) (by omega)]; omega
      have hwB : (H : Int) % 2 = (b : Int) := by omega
      have gH1 : (G : Int) ≤ H + 1 := by omega
      have gH2 : (H : Int) + 1 ≤ G := by omega
      have gH3 : (1 : Int) ≤ G := by omega
      have gH4 : (G : Int) ≤ 1000010 := by omega
      have rr1 : R1 ≤ R2 + 1 := by omega
      have rr2 : R2 + 1 ≤ R1 := by omega
      have rr3 : 0 ≤ R2 := by omega
      have rr4 : R2 ≤ 1000 := by omega
      have HQ : Hid ((tS g m).cells.toArray[0]? = some (.int .u32 (H : Int)) ∧ (tS g m).cells.toArray[2]? = some (.int .i64 R2)) := Lib.hid ⟨by rw [sp_gen, G2, hH], by rw [← hR2]; rfl⟩
      have iA := sp_info okA
      have iB := sp_info okB
      have oB1 := all_oneCell_toArray (one_sp (tS g m))
      have szB : z0.size = (tS g m).cells.toArray.size := by rw [s0, List.size_toArray, okB.len]
      obtain ⟨cA, hcA⟩ : ∃ cc, (tS g (m + 1)).cells.toArray = cc := ⟨_, rfl⟩
      obtain ⟨cB, hcB⟩ : ∃ cc, (tS g m).cells.toArray = cc := ⟨_, rfl⟩
      rw [hcA] at q9 iA
      rw [hcB] at iB oB1 szB HQ
      have HCB := Lib.hid hcB
      have HCA0 : Hid (cA[0]? = some (.int .u32 (G : Int)) ∧ cA[2]? = some (.int .i64 R1)) := Lib.hid (by rw [← hcA]; exact ⟨by rw [sp_gen, G1, hG], by rw [← hR1]; rfl⟩)
      clear hcA hcB hG hH hR1 hR2 ha hb bT bb hb0 i0 ho0 hI hT
      have g1 : ¬ ((m : Int) + 1 + 1 < (m : Int) + 2) := by omega
      let S : World → Prop := fun w' => w'.cell? ⟨g9, 0, none⟩ = some (.int .u32 (G : Int)) ∧ w'.cell? ⟨w.heap.size, 1, none⟩ = some (.int .u8 (n1.toNat : Int))
      have HS : Hid (∀ w', w'.heap[g9]? = wr.heap[g9]? → w'.heap[w.heap.size]? = wr.heap[w.heap.size]? → S w') := Lib.hid fun w' h1 h2 => ⟨(World.cell?_of_block (a := ⟨g9, 0, none⟩) h1).trans cg, (World.cell?_of_block (a := ⟨w.heap.size, 1, none⟩) h2).trans d31⟩
      have hS0 : S wr.drew := HS.out _ rfl rfl
      have aa9 := q9.at_
      have aa3 := q3.at_
      have hkd := hk.below (w' := wr.drew) ((Below.refl _ _).drew)
      replace q9 := q9.below (w' := wr.drew) ((Below.refl _ _).drew)
      replace q3 := q3.below (w' := wr.drew) ((Below.refl _ _).drew)
      have hBd : Below w.heap.size w wr.drew := hB.trans ((Below.refl _ _).drew)
      go_upto_region 16 with (fail)
      refine wp_region_held (S := S) (by kernel_rfl) ?_
      change wpAnyH _ _ _ _ S _ _ _ wr.drew
      refine wpAnyH_take (i := 0) (oi := ?oi_1) (v := ?v_1) ?ho_1 ?h1_1 ?h2_1 ?h3_1 ?hq_1 (Or.inl ⟨?hw_1, ?hy_1⟩) ?hs_1 ?rest_1; (case h2_1 => kernel_rfl); (case h3_1 => kernel_rfl); (case ho_1 => (simp only [List.getElem?_toArray, List.getElem?_cons_zero, List.getElem?_cons_succ]; rfl)); (case h1_1 => kernel_rfl); (case hq_1 => exact fun _ _ _ h => h); (case hw_1 => rfl); (case hy_1 => (intro w' hSw; (try simp only [S] at hSw); go_simp; (try with_reducible rfl))); (case hs_1 => assumption); (try simp only [Act.put, List.setIfInBounds_toArray, List.set_cons_zero, List.set_cons_succ])
      refine wpAnyH_take (i := 1) (oi := ?oi_2) (v := ?v_2) ?ho_2 ?h1_2 ?h2_2 ?h3_2 ?hq_2 (Or.inl ⟨?hw_2, ?hy_2⟩) ?hs_2 ?rest_2; (case h2_2 => kernel_rfl); (case h3_2 => kernel_rfl); (case ho_2 => (simp only [List.getElem?_toArray, List.getElem?_cons_zero, List.getElem?_cons_succ]; rfl)); (case h1_2 => kernel_rfl); (case hq_2 => exact fun _ _ _ h => h); (case hw_2 => rfl); (case hy_2 => (intro w' hSw; (try simp only [S] at hSw); go_simp; (try with_reducible rfl))); (case hs_2 => assumption); (try simp only [Act.put, List.setIfInBounds_toArray, List.set_cons_zero, List.set_cons_succ])
      refine wpAnyH_take (i := 2) (oi := ?oi_3) (v := ?v_3) ?ho_3 ?h1_3 ?h2_3 ?h3_3 ?hq_3 (Or.inl ⟨?hw_3, ?hy_3⟩) ?hs_3 ?rest_3; (case h2_3 => kernel_rfl); (case h3_3 => kernel_rfl); (case ho_3 => (simp only [List.getElem?_toArray, List.getElem?_cons_zero, List.getElem?_cons_succ]; rfl)); (case h1_3 => kernel_rfl); (case hq_3 => exact fun _ _ _ h => h); (case hw_3 => rfl); (case hy_3 => (intro w' hSw; (try simp only [S] at hSw); go_simp; (try with_reducible rfl))); (case hs_3 => assumption); (try simp only [Act.put, List.setIfInBounds_toArray, List.set_cons_zero, List.set_cons_succ])
      refine wpAnyH_take (i := 3) (oi := ?oi_4) (v := ?v_4) ?ho_4 ?h1_4 ?h2_4 ?h3_4 ?hq_4 (Or.inl ⟨?hw_4, ?hy_4⟩) ?hs_4 ?rest_4; (case h2_4 => kernel_rfl); (case h3_4 => kernel_rfl); (case ho_4 => (simp only [List.getElem?_toArray, List.getElem?_cons_zero, List.getElem?_cons_succ]; rfl)); (case h1_4 => kernel_rfl); (case hq_4 => exact fun _ _ _ h => h); (case hw_4 => rfl); (case hy_4 => (intro w' hSw; (try simp only [S] at hSw); go_simp; (try with_reducible rfl))); (case hs_4 => assumption); (try simp only [Act.put, List.setIfInBounds_toArray, List.set_cons_zero, List.set_cons_succ])
      refine wpAnyH_take (i := 4) (oi := ?oi_5) (v := ?v_5) ?ho_5 ?h1_5 ?h2_5 ?h3_5 ?hq_5 (Or.inl ⟨?hw_5, ?hy_5⟩) ?hs_5 ?rest_5; (case h2_5 => kernel_rfl); (case h3_5 => kernel_rfl); (case ho_5 => (simp only [List.getElem?_toArray, List.getElem?_cons_zero, List.getElem?_cons_succ]; rfl)); (case h1_5 => kernel_rfl); (case hq_5 => exact fun _ _ _ h => h); (case hw_5 => rfl); (case hy_5 => (intro w' hSw; (try simp only [S] at hSw); go_simp; (try with_reducible rfl))); (case hs_5 => assumption); (try simp only [Act.put, List.setIfInBounds_toArray, List.set_cons_zero, List.set_cons_succ])
      refine wpAnyH_take (i := 5) (oi := ?oi_6) (v := ?v_6) ?ho_6 ?h1_6 ?h2_6 ?h3_6 ?hq_6 (Or.inl ⟨?hw_6, ?hy_6⟩) ?hs_6 ?rest_6; (case h2_6 => kernel_rfl); (case h3_6 => kernel_rfl); (case ho_6 => (simp only [List.getElem?_toArray, List.getElem?_cons_zero, List.getElem?_cons_succ]; rfl)); (case h1_6 => kernel_rfl); (case hq_6 => exact fun _ _ _ h => h); (case hw_6 => rfl); (case hy_6 => (intro w' hSw; (try simp only [S] at hSw); go_simp; (try with_reducible rfl))); (case hs_6 => assumption); (try simp only [Act.put, List.setIfInBounds_toArray, List.set_cons_zero, List.set_cons_succ])
      refine wpAnyH_take (i := 6) (oi := ?oi_7) (v := ?v_7) ?ho_7 ?h1_7 ?h2_7 ?h3_7 ?hq_7 (Or.inl ⟨?hw_7, ?hy_7⟩) ?hs_7 ?rest_7; (case h2_7 => kernel_rfl); (case h3_7 => kernel_rfl); (case ho_7 => (simp only [List.getElem?_toArray, List.getElem?_cons_zero, List.getElem?_cons_succ]; rfl)); (case h1_7 => kernel_rfl); (case hq_7 => exact fun _ _ _ h => h); (case hw_7 => rfl); (case hy_7 => (intro w' hSw; (try simp only [S] at hSw); go_simp; (try with_reducible rfl))); (case hs_7 => assumption); (try simp only [Act.put, List.setIfInBounds_toArray, List.set_cons_zero, List.set_cons_succ])
      refine wpAnyH_ready (rs := [7]) (by kernel_rfl) (by simp) (AllReadyH.cons (o := ?oo7_8) ?hoo7_8 (fun K hK => ?steponly8) AllReadyH.nil); (case hoo7_8 => (simp only [List.getElem?_toArray, List.getElem?_cons_zero, List.getElem?_cons_succ]; rfl))
      go_simp
      refine (hfl _).mono ?_
      rintro e X2 ⟨rfl, hb1⟩
      replace q9 := q9.below hb1
      replace q3 := q3.below hb1
      replace hkd := hkd.below hb1
      replace hBd := hBd.trans (hb1.mono hBd.size)
      refine hK.out _ _ (HS.out _ (q9.at_.trans aa9.symm) (q3.at_.trans aa3.symm)) (fun _ => ?_)
      clear hK K
      (try simp only [Act.put, List.setIfInBounds_toArray, List.set_cons_zero, List.set_cons_succ])
      refine wpAnyH_ready (rs := [8]) (by kernel_rfl) (by simp) (AllReadyH.cons (o := ?oo8_9) ?hoo8_9 (fun K hK => ?steponly9) AllReadyH.nil); (case hoo8_9 => (simp only [List.getElem?_toArray, List.getElem?_cons_zero, List.getElem?_cons_succ]; rfl))
      have hwr := write_any hkd (by omega) (by omega) (a : Int) (fillB_len n1)
      unfold dp bkv at hwr
      go_simp
      refine hwr.mono ?_
      rintro e X3 ⟨rfl, v3, hk3, hs3⟩
      replace q9 := q9.step hs3
      replace q3 := q3.step hs3
      replace hBd := hBd.trans ((hs3.below hkd).mono (Nat.le_of_lt hzW))
      clear hwr
      refine hK.out _ _ (HS.out _ (q9.at_.trans aa9.symm) (q3.at_.trans aa3.symm)) (fun _ => ?_)
      clear hK K
      (try simp only [Act.put, List.setIfInBounds_toArray, List.set_cons_zero, List.set_cons_succ])
      refine wpAnyH_done (by kernel_rfl) ?_ _
      replace hB := hBd
      clear hfl hwA hs3 hkd hS0 cg d31 aa9 aa3 hk hBd cr
      have hnw := newest_any hk3 (by omega)
      rw [sp1, sp2] at hnw
      unfold dp spv at hnw
      rw [HCB.out] at hnw
      go_wp2_with fail
      refine Calls.mono hnw ?_
      rintro e X5 ⟨rfl, hb5⟩
      replace q9 := q9.below hb5
      replace q3 := q3.below hb5
      replace hk3 := hk3.below hb5
      replace hB := hB.trans (hb5.mono hB.size)
      obtain ⟨Y5, hY, a11, bY⟩ := newRow X5 z0 cB 38
      have q13 := Rw.new hk3 (Nat.le_refl _) a11
      replace q9 := q9.below bY
      replace q3 := q3.below bY
      replace hk3 := hk3.below bY
      replace hB := hB.trans (bY.mono hB.size)
      clear hb5 bY a11
      go_upto_region 18 with (first
        | (refine wpList_new rfl hZ rfl ?_)
        | (refine wpList_store_row rfl 38 (.tmp 13) (.tmp 77) rfl _ cB rfl rfl _ z0 (heap_alloc_new _ _) iB szB oB1 ?_)
        | fail)
      try rw [hY]
      clear hY
      clear hnw
      have c90 := blk_cell q9.at_ HCA0.out.1
      have c92 := blk_cell q9.at_ HCA0.out.2
      have c130 := blk_cell q13.at_ HQ.out.1
      have c132 := blk_cell q13.at_ HQ.out.2
      have hw2 := write_any hk3 (by omega) (by omega) (b : Int) zblk_len
      unfold dp bkv at hw2
      have gsub : (G : Int) - 1 = (H : Int) := by omega
      have rsub : R1 - 1 = R2 := by omega
      go_upto_region 21 with (first
        | (refine wpList_built rfl 40 #[] rfl (cs := (bvs zblk).toArray) (by simp only [List.map_toArray, List.map_nil]; exact built_blk0) ?_)
        | (go_at_call 21; refine Calls.mono hw2 ?_; rintro e X6 ⟨rfl, v4, hk4, hs4⟩)
        | fail)
      clear gsub rsub
      replace hB := hB.trans ((hs4.below hk3).mono (Nat.le_of_lt hzW))
      clear hw2 hs4 hk3 c90 c92 c130 c132
      have nOk := newest_ok hk4.ok
      have hnw := newest_any hk4 (by omega)
      rw [sp3] at hnw
      obtain ⟨NS, hNS⟩ : ∃ s, ((d.write (a : Int) (fillB n1)).write (b : Int) zblk).newest = s := ⟨_, rfl⟩
      rw [hNS] at nOk hnw
      have iN := sp_info nOk
      have oN1 := all_oneCell_toArray (one_sp NS)
      have szN : z0.size = NS.cells.toArray.size := by rw [s0, List.size_toArray, nOk.len]
      unfold dp spv at hnw
      obtain ⟨cN, hcN⟩ : ∃ cc, NS.cells.toArray = cc := ⟨_, rfl⟩
      rw [hcN] at hnw iN oN1 szN
      clear hNS hcN
      go_wp2_with fail
      refine Calls.mono hnw ?_
      rintro e X7 ⟨rfl, hb7⟩
      replace hB := hB.trans (hb7.mono hB.size)
      obtain ⟨Y7, hY, a15, bY⟩ := newRow X7 z0 cN 38
      replace hB := hB.trans (bY.mono hB.size)
      clear hb7 bY
      go_upto_region 22 with (first
        | (refine wpList_new rfl hZ rfl ?_)
        | (refine wpList_store_row rfl 38 (.tmp 15) (.tmp 107) rfl _ cN rfl rfl _ z0 (heap_alloc_new _ _) iN szN oN1 ?_)
        | fail)
      try rw [hY]
      clear hY
      go_wp2_with (first
        | (go_at_call 16; refine Calls.mono (wakes07_any _) ?_; rintro e X8 ⟨rfl, hb8⟩)
        | fail)
      go_ret
      exact Ret.mk rfl (hB.trans (hb8.mono hB.size))

set_option maxRecDepth 100000 in
theorem superTurns_walk {H : Type} {enc : TypeId × Value → H} {W : World} {base : Nat} {v0 v1 : Value} {d0 d1 : DataW H} {p0 p1 : List MemPlace}
    (k0 : Value.okWide Try.prog W .any base 32 v0) (h0 : DataW.Trod enc Try.prog W 0 (fun _ => true) true 32 v0 d0 p0)
    (k1 : Value.okWide Try.prog W .any base 101 v1) (h1 : DataW.Trod enc Try.prog W 0 (fun _ => true) true 101 v1 d1 p1)
    : Calls Try.prog 13 #[v0, v1] W fun e W' => e = .returned (.bool true) ∧ Below W.heap.size W W' := by
  obtain ⟨z, rfl, -, -, hz⟩ := open_int Try.underlying32 k0 h0
  obtain ⟨l, hl, rfl⟩ := open_bytes_arr Try.underlying101 Try.underlying5 (by kernel_rfl) (by kernel_rfl) k1 h1
  match l, hl with
  | [n0, n1], _ =>
    have hw := wf_u32 hz
    have := superTurns_core z.toNat (by omega) n0 n1 W
    rwa [show ((z.toNat : Nat) : Int) = z from by omega] at this
end Go.Proofs.Ytnkdbkgihemjnaa
