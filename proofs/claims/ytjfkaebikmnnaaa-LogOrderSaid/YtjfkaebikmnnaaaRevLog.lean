/- The walks over EncodeLog and its reference. -/
import Derived.Test.YtjfkaebikmnnaaaRevWalk
import Derived.Test.YtjfkaebikmnnaaaRevPlain2
import Derived.Test.YtjfkaebikmnnaaaMany
namespace Go.Proofs.Ytjfkaebikmnnaaa
set_option linter.unusedSimpArgs false
set_option linter.unusedVariables false
open Go.RowKit Go.Sort

def le0 : LE := ⟨0, List.replicate 32 0⟩
theorem le0_ok : le0.Ok := ⟨by simp [le0], by simp [le0]⟩
theorem leZ : ZeroIs Try.prog 66 le0.cells.toArray := by
  unfold ZeroIs
  rw [List.size_toArray, le0_ok.len]
  kernel_rfl
theorem le_size : (Try.prog.info? 66).map (·.size) = some 33 := by kernel_rfl
theorem le_info {x : LE} (h : x.Ok) : (Try.prog.info? 66).map (·.size) = some x.cells.toArray.size := by rw [List.size_toArray, h.len]; exact le_size
theorem le_leninfo {x : LE} (h : x.Ok) : (Try.prog.info? 66).map (·.size) = some x.cells.length := by rw [h.len]; exact le_size
theorem le_sizes {a b : LE} (ha : a.Ok) (hb : b.Ok) : a.cells.toArray.size = b.cells.toArray.size := by rw [List.size_toArray, List.size_toArray, ha.len, hb.len]
theorem one_le (x : LE) : ∀ u ∈ x.cells, u.oneCell' = true := fun u hu => by
  unfold LE.cells at hu
  rcases List.mem_cons.1 hu with rfl | h
  · rfl
  · exact oneCell_bvs _ u h
/-- a log by value -/
def lgv (next : Int) (A : Option Addr) (n c : Nat) : Value := .agg #[.int .i64 next, .slice A n c]
def les (l : List LE) : List Value := l.flatMap LE.cells
theorem ahd_nonneg {l : List LE} {next : Int} : ∀ k : Nat, (∀ j : Nat, j < k → ahd 0 l j < numAt l j ∧ numAt l j < next) → 0 ≤ ahd 0 l k
  | 0, _ => by simp [ahd]
  | k + 1, h => by
    have ih := ahd_nonneg k (fun j hj => h j (by omega))
    have := (h k (by omega)).1
    unfold ahd
    rw [if_neg (by omega), Nat.add_sub_cancel]
    omega
theorem range_grown {w w' : World} {row : Option Nat} (hg : w.grownBy w' row) {b o : Nat} {cs : List Value} (hb : b < w.heap.size) (hne : row ≠ some b) (hr : w.rangeAt b o cs) : w'.rangeAt b o cs :=
  fun j v hj => (World.cell?_of_block (a := ⟨b, o + j, none⟩) (hg.block b hb (fun e => hne e.symm))).trans (hr j v hj)
def logB (next : Int) (l : List LE) : List UInt8 := if rise 0 next l then bytesL next l else []
/-- a slice reads as a list of entries -/
structure LgAt (w : World) (B : Nat) (A : Option Addr) (n c : Nat) (l : List LE) : Prop where
  ok : ∀ x ∈ l, x.Ok
  len : l.length = n
  sl : Sl w B 33 A n (les l)
  cap : n ≤ c
theorem LgAt.below {w w' : World} {B : Nat} {A : Option Addr} {n c : Nat} {l : List LE} (h : LgAt w B A n c l) (hb : Below B w w') : LgAt w' B A n c l := ⟨h.ok, h.len, h.sl.below hb, h.cap⟩
theorem les_part {l : List LE} (h : ∀ x ∈ l, x.Ok) {k : Nat} {x : LE} (hx : l[k]? = some x) : ((les l).drop (k * 33)).take 33 = x.cells := by
  induction l generalizing k with
  | nil => simp at hx
  | cons y l ih =>
    have hy := (h y (by simp)).len
    match k with
    | 0 =>
      simp at hx; subst hx
      simp [les, List.flatMap_cons, ← hy]
    | k + 1 =>
      have := ih (fun x hx => h x (by simp [hx])) (k := k) (by simpa using hx)
      rw [les, List.flatMap_cons, Nat.add_mul, Nat.one_mul, Nat.add_comm (k * 33), ← List.drop_drop]
      conv => lhs; rw [← hy, List.drop_left]
      rw [hy]; exact this
theorem LgAt.entry {w : World} {B : Nat} {A : Option Addr} {n c : Nat} {l : List LE} (h : LgAt w B A n c l) {k : Nat} {x : LE} (hx : l[k]? = some x) : ∃ b o, A = some ⟨b, o, none⟩ ∧ b < B ∧ w.rangeAt b (o + k * 33) x.cells := by
  obtain ⟨hk, -⟩ := List.getElem?_eq_some_iff.1 hx
  obtain ⟨b, o, e, hb, hr, hc⟩ := h.sl.elem (k := k) (by rw [← h.len]; exact hk)
  rw [les_part h.ok hx] at hc
  exact ⟨b, o, e, hb, hc⟩
theorem key_range {w : World} {g : Nat} {x : LE} (hs : x.Ok) (h : w.heap[g]? = some (.cells x.cells.toArray 66)) : w.cell? ⟨g, 0, none⟩ = some (.int .i64 x.num) ∧ w.rangeAt g 1 (bvs x.key) := by
  refine ⟨blk_cell h rfl, fun j v hj => ?_⟩
  refine blk_cell h ?_
  rw [List.getElem?_toArray, LE.cells, Nat.add_comm, List.getElem?_cons_succ]
  exact hj
theorem head3 (next : Int) (n : Nat) (h0 : 1 ≤ next) (h1 : next ≤ 65535) (h2 : n ≤ 8) : (bvs (headL next n)).toArray = #[Value.int .u8 (next / 256), Value.int .u8 (next % 256), Value.int .u8 (n : Int)] := by
  simp only [headL, bvs, List.map_cons, List.map_nil, bv_u8]
  rw [show next / 256 % 256 = next / 256 from by omega, show (n : Int) % 256 = (n : Int) from by omega]
theorem two_cells (z : Int) (h0 : 0 ≤ z) (h1 : z ≤ 65535) : bvs [u8 (z / 256), u8 z] = [Value.int .u8 (z / 256), Value.int .u8 (z % 256)] := by
  simp only [bvs, List.map_cons, List.map_nil, bv_u8]
  rw [show z / 256 % 256 = z / 256 from by omega]
theorem own_lit' {W : World} {base g n : Nat} {cs : List Value} {t : TypeId} (hb : base ≤ g) (h : W.heap[g]? = some (.cells cs.toArray t)) (hn : cs.length = n) (hm : n ≤ maxLen) : W.ownsRow base t 1 (.slice (some ⟨g, 0, none⟩) n n) n cs := own_lit hb h hn hm

set_option maxHeartbeats 4000000 in
set_option maxRecDepth 100000 in
theorem log_no {next : Int} {A : Option Addr} {n c : Nat} (h : next < 1 ∨ (1 ≤ next ∧ 65535 < next) ∨ (1 ≤ next ∧ next ≤ 65535 ∧ 8 < n)) (w : World) : Calls Try.prog 24 #[lgv next A n c] w (EncP w [] 11) := by
  unfold lgv
  have h3 : 8 < n → (8 : Int) < (n : Int) := by omega
  go_enter Try.func24, Try.ntmps24
  rcases h with h | ⟨h1, h⟩ | ⟨h1, h2, h⟩
  · clear h3
    go_wp2_with fail
    go_ret2
    exact EncP.no (by repeat (first | (with_reducible exact Below.refl _ _) | (with_reducible refine bDrewN ?_ _) | (with_reducible refine Below.drew ?_) | (with_reducible refine Below.alloc ?_ ?_ _) | (with_reducible refine Below.setCell ?_ ?_ _) | (with_reducible assumption) | go_size))
  · clear h3
    go_wp2_with fail
    go_ret2
    exact EncP.no (by repeat (first | (with_reducible exact Below.refl _ _) | (with_reducible refine bDrewN ?_ _) | (with_reducible refine Below.drew ?_) | (with_reducible refine Below.alloc ?_ ?_ _) | (with_reducible refine Below.setCell ?_ ?_ _) | (with_reducible assumption) | go_size))
  · replace h3 := h3 h
    go_wp2_with fail
    go_ret2
    exact EncP.no (by repeat (first | (with_reducible exact Below.refl _ _) | (with_reducible refine bDrewN ?_ _) | (with_reducible refine Below.drew ?_) | (with_reducible refine Below.alloc ?_ ?_ _) | (with_reducible refine Below.setCell ?_ ?_ _) | (with_reducible assumption) | go_size))

set_option maxHeartbeats 4000000 in
set_option maxRecDepth 100000 in
theorem rlog_no {next : Int} {A : Option Addr} {n c : Nat} (h : next < 1 ∨ (1 ≤ next ∧ 65535 < next) ∨ (1 ≤ next ∧ next ≤ 65535 ∧ 8 < n)) (w : World) : Calls Try.prog 25 #[lgv next A n c] w (EncP w [] 11) := by
  unfold lgv
  have h3 : 8 < n → (8 : Int) < (n : Int) := by omega
  go_enter Try.func25, Try.ntmps25
  rcases h with h | ⟨h1, h⟩ | ⟨h1, h2, h⟩
  · clear h3
    go_wp2_with fail
    go_ret2
    exact EncP.no (by repeat (first | (with_reducible exact Below.refl _ _) | (with_reducible refine bDrewN ?_ _) | (with_reducible refine Below.drew ?_) | (with_reducible refine Below.alloc ?_ ?_ _) | (with_reducible refine Below.setCell ?_ ?_ _) | (with_reducible assumption) | go_size))
  · clear h3
    go_wp2_with fail
    go_ret2
    exact EncP.no (by repeat (first | (with_reducible exact Below.refl _ _) | (with_reducible refine bDrewN ?_ _) | (with_reducible refine Below.drew ?_) | (with_reducible refine Below.alloc ?_ ?_ _) | (with_reducible refine Below.setCell ?_ ?_ _) | (with_reducible assumption) | go_size))
  · replace h3 := h3 h
    go_wp2_with fail
    go_ret2
    exact EncP.no (by repeat (first | (with_reducible exact Below.refl _ _) | (with_reducible refine bDrewN ?_ _) | (with_reducible refine Below.drew ?_) | (with_reducible refine Below.alloc ?_ ?_ _) | (with_reducible refine Below.setCell ?_ ?_ _) | (with_reducible assumption) | go_size))

attribute [-go_sem] Builtin.append_
set_option maxHeartbeats 16000000 in
set_option maxRecDepth 100000 in
theorem log_yes {next : Int} {A : Option Addr} {n c B : Nat} {l : List LE} (h1 : 1 ≤ next) (h2 : next ≤ 65535) (h8 : n ≤ 8) (w : World) (hl : LgAt w B A n c l) (hB : B ≤ w.heap.size) : Calls Try.prog 24 #[lgv next A n c] w (EncP w (logB next l) (erF (rise 0 next l))) := by
  have hln := hl.len
  have hH := head3 next n h1 h2 h8
  have i8 : ¬ (8 : Int) < (n : Int) := by omega
  have hRi := rise_iff next l 0
  have hz := leZ
  have hone0 := one_le le0
  obtain ⟨z, hzz⟩ : ∃ z, le0.cells = z := ⟨_, rfl⟩
  have hzl : z.length = 33 := by rw [← hzz]; exact le0_ok.len
  rw [hzz] at hz
  clear hzz
  obtain ⟨hd, hhd⟩ : ∃ b, headL next n = b := ⟨_, rfl⟩
  have hP0 : Hid (preL next l 0 = hd) := Lib.hid (by rw [preL_zero, hln, hhd])
  have hHl : hd.length = 3 := by rw [← hhd]; rfl
  rw [hhd] at hH
  clear hhd
  have HL := Lib.hid hl
  have HN := Lib.hid hln
  have HR := Lib.hid hRi
  have HH := Lib.hid hH
  clear hl hH hRi hln
  unfold lgv
  go_enter Try.func24, Try.ntmps24
  go_upto_region 1 with (fail)
  obtain ⟨W, hW⟩ : ∃ W, w.alloc (.cells #[.int .i64 next, .slice A n c] 46) = W := ⟨_, rfl⟩
  try rw [hW]
  have a1 : W.heap[w.heap.size]? = some (.cells #[.int .i64 next, .slice A n c] 46) := by rw [← hW]; exact heap_alloc_new _ _
  have hBW : Below w.heap.size w W := by rw [← hW]; exact (Below.refl _ _).alloc (Nat.le_refl _) _
  have c0 := blk_cell a1 (k := 0) rfl
  have c1 := blk_cell a1 (k := 1) rfl
  have hzW := (Array.getElem?_eq_some_iff.1 a1).1
  clear hW
  go_upto_region 5 with (fail)
  obtain ⟨Wa, hWa⟩ : ∃ X, W.alloc (.cells (bvs hd).toArray 5) = X := ⟨_, rfl⟩
  rw [← HH.out, hWa]
  have hbA : Below W.heap.size W Wa := by rw [← hWa]; exact (Below.refl _ _).alloc (Nat.le_refl _) _
  have bH : Wa.heap[W.heap.size]? = some (.cells (bvs hd).toArray 5) := by rw [← hWa]; exact heap_alloc_new _ _
  have hBA := hBW.trans (hbA.mono hBW.size)
  have own0 : Wa.ownsRow W.heap.size 5 1 (.slice (some ⟨W.heap.size, 0, none⟩) 3 3) (3 + 0 * 34) (bvs (preL next l 0)) := by
    rw [hP0.out]; exact own_lit (Nat.le_refl _) bH (by simp [bvs_len, hHl]) (by simp [maxLen])
  have aW := a1
  replace a1 := bBlk hbA hzW a1
  replace c0 := blk_cell a1 (k := 0) rfl
  replace c1 := blk_cell a1 (k := 1) rfl
  have HBW := Lib.hid hBW
  clear hWa bH hBW
  have HA := Lib.hid aW
  clear a1 aW
  go_wp2_with fail
  go_loopw [4, 5, 37] (fun vb va vi wr => ∃ k : Nat, k ≤ n ∧ vi = .int .i64 k ∧ va = .int .i64 (ahd 0 l k) ∧ wr.ownsRow W.heap.size 5 1 vb (3 + k * 34) (bvs (preL next l k)) ∧ Below W.heap.size W wr ∧ (∀ j : Nat, j < k → ahd 0 l j < numAt l j ∧ numAt l j < next)) (fun _ _ vi _ => n - (intOf vi).toNat)
  case atStart => exact ⟨0, by omega, rfl, rfl, own0, hbA, fun j hj => absurd hj (by omega)⟩
  case round =>
    clear own0 hbA hBA c0 c1
    obtain ⟨k, hk, rfl, rfl, hown, hbr, hris⟩ := hrel
    have hwW : w.heap.size ≤ W.heap.size := Nat.le_of_lt hzW
    have c0 : wr.cell? ⟨w.heap.size, 0, none⟩ = some (.int .i64 next) := blk_cell (bBlk hbr hzW HA.out) (k := 0) rfl
    have c1 : wr.cell? ⟨w.heap.size, 1, none⟩ = some (.slice A n c) := blk_cell (bBlk hbr hzW HA.out) (k := 1) rfl
    by_cases hlt : k < n
    · obtain ⟨x, hx⟩ : ∃ x, l[k]? = some x := ⟨_, List.getElem?_eq_getElem (by rw [HN.out]; exact hlt)⟩
      have hxo := HL.out.ok x (List.mem_of_getElem? hx)
      obtain ⟨b, o, rfl, hbB, hxr⟩ := HL.out.entry hx
      have hnx := numAt_of hx
      have hpx := Lib.hid (preL_succ (next := next) hx)
      have hbw : b < W.heap.size := by omega
      have hBr := HBW.out.trans (hbr.mono HBW.out.size)
      replace hxr := bRange hBr (by omega) hxr
      have hzwr : w.heap.size < wr.heap.size := by have := hbr.size; omega
      have hxi := le_info hxo
      have hxli := le_leninfo hxo
      have hxs : z.toArray.size = x.cells.toArray.size := by rw [List.size_toArray, List.size_toArray, hzl, hxo.len]
      have hone := one_le x
      have hi1 : (k : Int) < (n : Int) := by omega
      obtain ⟨A4, c4, rfl, -⟩ := own_form hown
      obtain ⟨Y, hY, y7, bY⟩ := newRow wr z.toArray x.cells.toArray 66
      obtain ⟨e0, rk⟩ := key_range hxo y7
      have hzY := (Array.getElem?_eq_some_iff.1 y7).1
      have d0 := (bY.cell (p := ⟨w.heap.size, 0, none⟩) hzwr).trans c0
      have hbY := hbr.trans (bY.mono hbr.size)
      have hownY := own_below hown bY
      have hah := ahd_nonneg k hris
      have hlt4 : ∀ q, (Value.slice A4 (3 + k * 34) c4).ownBlock = some q → q < wr.heap.size := fun q hq => (hown.lt q hq).2
      have hkl := hxo.key
      obtain ⟨m, hm⟩ : ∃ m, 3 + k * 34 = m := ⟨_, rfl⟩
      rw [hm] at hownY hlt4
      rw [hm]
      have HY := Lib.hid (And.intro hownY hbY)
      have HO := Lib.hid hris
      have HM := Lib.hid hm
      have hmb : m ≤ 300 := by omega
      clear hown hbr hris hownY hbY y7 hBr hm
      go_upto_region 8 with (first
        | (refine wpList_load_mid rfl 66 (.tmp 39) rfl b (o + k * 33) rfl x.cells _ hxr Try.underlying66 rfl hxli ?_)
        | (refine wpList_new rfl hz rfl ?_)
        | (refine wpList_store_row rfl 66 (.tmp 7) (.tmp 40) rfl _ x.cells.toArray rfl rfl _ z.toArray (heap_alloc_new _ _) hxi hxs (all_oneCell_toArray hone) ?_; (try rw [hY]))
        | fail)
      clear hY hxr
      by_cases hg : ahd 0 l k < x.num ∧ x.num < next
      · obtain ⟨g1, g2⟩ := hg
        have g3 : x.num ≤ 65535 := by omega
        have g4 : 0 ≤ x.num := by omega
        go_upto_region 11 with (fail)
        have ew1 : IntKind.u8.wrap (x.num / 256) = x.num / 256 := by show (x.num / 256) % 256 = _; omega
        have ew2 : IntKind.u8.wrap x.num = x.num % 256 := rfl
        obtain ⟨hownY, hbY⟩ := HY.out
        have hYW : W.heap.size ≤ Y.heap.size := hbY.size
        obtain ⟨V1, hV1⟩ : ∃ V, (Y.alloc (.cells #[.int .u8 (x.num / 256), .int .u8 (x.num % 256)] 5)).drew = V := ⟨_, rfl⟩
        have own1 : V1.ownsRow W.heap.size 5 1 (.slice A4 m c4) m (bvs (preL next l k)) := by rw [← hV1]; exact hownY.alloc _
        have s1 : Sl V1 V1.heap.size 1 (some ⟨Y.heap.size, 0, none⟩) 2 (bvs [u8 (x.num / 256), u8 x.num]) := by
          rw [two_cells _ g4 g3, ← hV1]
          exact (Sl.new (n := 2) (heap_alloc_new _ _) rfl).drew
        have bYV : Below Y.heap.size Y V1 := by rw [← hV1]; exact ((Below.refl _ Y).alloc (Nat.le_refl _) _).drew
        have hbV := hbY.trans (bYV.mono hYW)
        have zV := hbV.size
        have zYV := bYV.size
        have rk1 := bRange bYV hzY rk
        obtain ⟨A5, c5, w1, hrun1, row1, hg1, hat1⟩ := run_app (P := Try.prog) V1 (ty := 24) (t := 24) Try.underlying24 elemC own1 s1 (c := 2) (oneCell_bvs _) (by simp only [maxLen]; omega) (by omega) zV
        have q0 : V1.cell? ⟨wr.heap.size, 0, none⟩ = some (.int .i64 x.num) := (bYV.cell (p := ⟨wr.heap.size, 0, none⟩) hzY).trans e0
        have q1 : w1.cell? ⟨wr.heap.size, 0, none⟩ = some (.int .i64 x.num) := (World.cell?_of_block (a := ⟨wr.heap.size, 0, none⟩) (hg1.block wr.heap.size (by omega) (fun e => by have := hlt4 _ e.symm; omega))).trans q0
        have rk2 := range_grown hg1 (by omega) (fun e => by have := hlt4 _ e; omega) rk1
        have b1 : Below W.heap.size V1 w1 := (Below.refl _ V1).grown hg1 zV (own_ge own1)
        have z1 := b1.size
        have s2 : Sl w1 w1.heap.size 1 (some ⟨wr.heap.size, 1, none⟩) 32 (bvs x.key) := ⟨by rw [bvs_len, hkl], fun _ => ⟨wr.heap.size, 1, rfl, by omega, rk2⟩⟩
        obtain ⟨A6, c6, w2, hrun2, row2, hg2, -⟩ := run_app (P := Try.prog) w1 (ty := 24) (t := 24) Try.underlying24 elemC row1 s2 (c := 32) (oneCell_bvs _) (by simp only [maxLen]; omega) (by omega) (by omega)
        have q2 : w2.cell? ⟨wr.heap.size, 0, none⟩ = some (.int .i64 x.num) := (World.cell?_of_block (a := ⟨wr.heap.size, 0, none⟩) (hg2.block wr.heap.size (by omega) (fun e => by rcases hat1 with h | h <;> rw [h] at e; (have := hlt4 _ e.symm; omega); (injection e with e; omega)))).trans q1
        have b2 : Below W.heap.size V1 w2 := b1.trans ((Below.refl _ w1).grown hg2 (by omega) (own_ge row1))
        rw [← bvs_append, ← bvs_append, ← hpx.out] at row2
        have HO2 := Lib.hid (And.intro row2 (hbV.trans b2))
        obtain ⟨m2, hm2⟩ : ∃ q, m + 2 = q := ⟨_, rfl⟩
        rw [hm2] at hrun1 hrun2 HO2
        obtain ⟨m3, hm3⟩ : ∃ q, m2 + 32 = q := ⟨_, rfl⟩
        rw [hm3] at hrun2 HO2
        have HM3 : Hid (m3 = 3 + (k + 1) * 34) := Lib.hid (by have := HM.out; omega)
        clear c1 hownY hbY own1 s1 bYV hbV zV zYV rk1 row1 hg1 rk2 b1 z1 s2 row2 hg2 b2 hm2 hm3 hlt4 rk d0
        have HQ := Lib.hid (And.intro q0 (And.intro q1 q2))
        clear q0 q1 q2 hat1
        let S : World → Prop := fun w' => w'.cell? ⟨wr.heap.size, 0, none⟩ = some (.int .i64 x.num)
        refine wp_region_held (S := S) (by kernel_rfl) ?_
        change wpAnyH _ _ _ _ S _ _ _ Y.drew
        have hS0 : S Y.drew := e0
        refine wpAnyH_take (i := 0) (oi := ?oi_139) (v := ?v_139) ?ho_139 ?h1_139 ?h2_139 ?h3_139 ?hq_139 (Or.inl ⟨?hw_139, ?hy_139⟩) ?hs_139 ?rest_139; (case h2_139 => kernel_rfl); (case h3_139 => kernel_rfl); (case ho_139 => (simp only [List.getElem?_toArray, List.getElem?_cons_zero, List.getElem?_cons_succ]; rfl)); (case h1_139 => kernel_rfl); (case hq_139 => exact fun _ _ _ h => h); (case hw_139 => rfl); (case hy_139 => (intro w' hSw; (try simp only [S] at hSw); go_simp; (try with_reducible rfl))); (case hs_139 => assumption); (try simp only [Act.put, List.setIfInBounds_toArray, List.set_cons_zero, List.set_cons_succ])
        refine wpAnyH_take (i := 1) (oi := ?oi_140) (v := ?v_140) ?ho_140 ?h1_140 ?h2_140 ?h3_140 ?hq_140 (Or.inl ⟨?hw_140, ?hy_140⟩) ?hs_140 ?rest_140; (case h2_140 => kernel_rfl); (case h3_140 => kernel_rfl); (case ho_140 => (simp only [List.getElem?_toArray, List.getElem?_cons_zero, List.getElem?_cons_succ]; rfl)); (case h1_140 => kernel_rfl); (case hq_140 => exact fun _ _ _ h => h); (case hw_140 => rfl); (case hy_140 => (intro w' hSw; (try simp only [S] at hSw); go_simp; (try with_reducible rfl))); (case hs_140 => assumption); (try simp only [Act.put, List.setIfInBounds_toArray, List.set_cons_zero, List.set_cons_succ])
        refine wpAnyH_take (i := 2) (oi := ?oi_141) (v := ?v_141) ?ho_141 ?h1_141 ?h2_141 ?h3_141 ?hq_141 (Or.inl ⟨?hw_141, ?hy_141⟩) ?hs_141 ?rest_141; (case h2_141 => kernel_rfl); (case h3_141 => kernel_rfl); (case ho_141 => (simp only [List.getElem?_toArray, List.getElem?_cons_zero, List.getElem?_cons_succ]; rfl)); (case h1_141 => kernel_rfl); (case hq_141 => exact fun _ _ _ h => h); (case hw_141 => rfl); (case hy_141 => (intro w' hSw; (try simp only [S] at hSw); go_simp; (try with_reducible rfl))); (case hs_141 => assumption); (try simp only [Act.put, List.setIfInBounds_toArray, List.set_cons_zero, List.set_cons_succ])
        refine wpAnyH_take (i := 3) (oi := ?oi_142) (v := ?v_142) ?ho_142 ?h1_142 ?h2_142 ?h3_142 ?hq_142 (Or.inl ⟨?hw_142, ?hy_142⟩) ?hs_142 ?rest_142; (case h2_142 => kernel_rfl); (case h3_142 => kernel_rfl); (case ho_142 => (simp only [List.getElem?_toArray, List.getElem?_cons_zero, List.getElem?_cons_succ]; rfl)); (case h1_142 => kernel_rfl); (case hq_142 => exact fun _ _ _ h => h); (case hw_142 => rfl); (case hy_142 => (intro w' hSw; (try simp only [S] at hSw); go_simp; (try with_reducible rfl))); (case hs_142 => assumption); (try simp only [Act.put, List.setIfInBounds_toArray, List.set_cons_zero, List.set_cons_succ])
        refine wpAnyH_take (i := 4) (oi := ?oi_143) (v := ?v_143) ?ho_143 ?h1_143 ?h2_143 ?h3_143 ?hq_143 (Or.inl ⟨?hw_143, ?hy_143⟩) ?hs_143 ?rest_143; (case h2_143 => kernel_rfl); (case h3_143 => kernel_rfl); (case ho_143 => (simp only [List.getElem?_toArray, List.getElem?_cons_zero, List.getElem?_cons_succ]; rfl)); (case h1_143 => kernel_rfl); (case hq_143 => exact fun _ _ _ h => h); (case hw_143 => rfl); (case hy_143 => (intro w' hSw; (try simp only [S] at hSw); go_simp; (try with_reducible rfl))); (case hs_143 => assumption); (try simp only [Act.put, List.setIfInBounds_toArray, List.set_cons_zero, List.set_cons_succ])
        refine wpAnyH_take (i := 5) (oi := ?oi_144) (v := ?v_144) ?ho_144 ?h1_144 ?h2_144 ?h3_144 ?hq_144 (Or.inl ⟨?hw_144, ?hy_144⟩) ?hs_144 ?rest_144; (case h2_144 => kernel_rfl); (case h3_144 => kernel_rfl); (case ho_144 => (simp only [List.getElem?_toArray, List.getElem?_cons_zero, List.getElem?_cons_succ]; rfl)); (case h1_144 => kernel_rfl); (case hq_144 => exact fun _ _ _ h => h); (case hw_144 => rfl); (case hy_144 => (intro w' hSw; (try simp only [S] at hSw); go_simp; (try with_reducible rfl))); (case hs_144 => assumption); (try simp only [Act.put, List.setIfInBounds_toArray, List.set_cons_zero, List.set_cons_succ])
        refine wpAnyH_take (i := 6) (oi := ?oi_145) (v := ?v_145) ?ho_145 ?h1_145 ?h2_145 ?h3_145 ?hq_145 (Or.inl ⟨?hw_145, ?hy_145⟩) ?hs_145 ?rest_145; (case h2_145 => kernel_rfl); (case h3_145 => kernel_rfl); (case ho_145 => (simp only [List.getElem?_toArray, List.getElem?_cons_zero, List.getElem?_cons_succ]; rfl)); (case h1_145 => kernel_rfl); (case hq_145 => exact fun _ _ _ h => h); (case hw_145 => rfl); (case hy_145 => (intro w' hSw; (try simp only [S] at hSw); go_simp; (try with_reducible rfl))); (case hs_145 => assumption); (try simp only [Act.put, List.setIfInBounds_toArray, List.set_cons_zero, List.set_cons_succ])
        refine wpAnyH_take (i := 7) (oi := ?oi_146) (v := ?v_146) ?ho_146 ?h1_146 ?h2_146 ?h3_146 ?hq_146 (Or.inl ⟨?hw_146, ?hy_146⟩) ?hs_146 ?rest_146; (case h2_146 => kernel_rfl); (case h3_146 => kernel_rfl); (case ho_146 => (simp only [List.getElem?_toArray, List.getElem?_cons_zero, List.getElem?_cons_succ]; rfl)); (case h1_146 => kernel_rfl); (case hq_146 => exact fun _ _ _ h => h); (case hw_146 => rfl); (case hy_146 => (intro w' hSw; (try simp only [S] at hSw); go_simp; (try with_reducible rfl))); (case hs_146 => assumption); (try simp only [Act.put, List.setIfInBounds_toArray, List.set_cons_zero, List.set_cons_succ])
        refine wpAnyH_take (i := 10) (oi := ?oi_147) (v := ?v_147) ?ho_147 ?h1_147 ?h2_147 ?h3_147 ?hq_147 (Or.inl ⟨?hw_147, ?hy_147⟩) ?hs_147 ?rest_147; (case h2_147 => kernel_rfl); (case h3_147 => kernel_rfl); (case ho_147 => (simp only [List.getElem?_toArray, List.getElem?_cons_zero, List.getElem?_cons_succ]; rfl)); (case h1_147 => kernel_rfl); (case hq_147 => exact fun _ _ _ h => h); (case hw_147 => rfl); (case hy_147 => (intro w' hSw; (try simp only [S] at hSw); go_simp; (try with_reducible rfl))); (case hs_147 => assumption); (try simp only [Act.put, List.setIfInBounds_toArray, List.set_cons_zero, List.set_cons_succ])
        refine wpAnyH_take (i := 11) (oi := ?oi_148) (v := ?v_148) ?ho_148 ?h1_148 ?h2_148 ?h3_148 ?hq_148 (Or.inl ⟨?hw_148, ?hy_148⟩) ?hs_148 ?rest_148; (case h2_148 => kernel_rfl); (case h3_148 => kernel_rfl); (case ho_148 => (simp only [List.getElem?_toArray, List.getElem?_cons_zero, List.getElem?_cons_succ]; rfl)); (case h1_148 => kernel_rfl); (case hq_148 => exact fun _ _ _ h => h); (case hw_148 => rfl); (case hy_148 => (intro w' hSw; (try simp only [S] at hSw); go_simp; (try with_reducible rfl))); (case hs_148 => assumption); (try simp only [Act.put, List.setIfInBounds_toArray, List.set_cons_zero, List.set_cons_succ])
        refine wpAnyH_ready (rs := [8]) (by kernel_rfl) (by simp) (AllReadyH.cons (o := ?oo8_161) ?hoo8_161 (fun K hK => ?steponly161) AllReadyH.nil); (case hoo8_161 => (simp only [List.getElem?_toArray, List.getElem?_cons_zero, List.getElem?_cons_succ]; rfl))
        go_simp
        (try rw [hV1])
        refine hK.out _ _ HQ.out.1 (fun _ => ?_)
        clear hK K hV1
        (try simp only [Act.put, List.setIfInBounds_toArray, List.set_cons_zero, List.set_cons_succ])
        refine wpAnyH_ready (rs := [9]) (by kernel_rfl) (by simp) (AllReadyH.cons (o := ?oo9_162) ?hoo9_162 (fun K hK => ?steponly162) AllReadyH.nil); (case hoo9_162 => (simp only [List.getElem?_toArray, List.getElem?_cons_zero, List.getElem?_cons_succ]; rfl))
        go_simp
        refine hK.out _ _ HQ.out.2.1 (fun _ => ?_)
        clear hK K
        (try simp only [Act.put, List.setIfInBounds_toArray, List.set_cons_zero, List.set_cons_succ])
        refine wpAnyH_ready (rs := [12]) (by kernel_rfl) (by simp) (AllReadyH.cons (o := ?oo12_163) ?hoo12_163 (fun K hK => ?steponly163) AllReadyH.nil); (case hoo12_163 => (simp only [List.getElem?_toArray, List.getElem?_cons_zero, List.getElem?_cons_succ]; rfl))
        go_simp
        refine hK.out _ _ HQ.out.2.2 (fun _ => ?_)
        clear hK K
        (try simp only [Act.put, List.setIfInBounds_toArray, List.set_cons_zero, List.set_cons_succ])
        refine wpAnyH_take (i := 13) (oi := ?oi_149) (v := ?v_149) ?ho_149 ?h1_149 ?h2_149 ?h3_149 ?hq_149 (Or.inl ⟨?hw_149, ?hy_149⟩) ?hs_149 ?rest_149; (case h2_149 => kernel_rfl); (case h3_149 => kernel_rfl); (case ho_149 => (simp only [List.getElem?_toArray, List.getElem?_cons_zero, List.getElem?_cons_succ]; rfl)); (case h1_149 => kernel_rfl); (case hq_149 => exact fun _ _ _ h => h); (case hw_149 => rfl); (case hy_149 => (intro w' hSw; (try simp only [S] at hSw); go_simp; (try with_reducible rfl))); (case hs_149 => assumption); (try simp only [Act.put, List.setIfInBounds_toArray, List.set_cons_zero, List.set_cons_succ])
        refine wpAnyH_done (by kernel_rfl) ?_ _
        go_wp2_with fail
        go_roundw
        case rel => exact ⟨k + 1, by omega, by go_num, by rw [show ahd 0 l (k + 1) = x.num from by unfold ahd; rw [if_neg (by omega), Nat.add_sub_cancel, hnx]], by rw [← HM3.out]; exact HO2.out.1, HO2.out.2, fun j hj => by
          rcases Nat.lt_or_ge j k with h | h
          · exact HO.out j h
          · obtain rfl : j = k := by omega
            rw [hnx]; exact ⟨g1, g2⟩⟩
        case measure => simp [intOf]; omega
      · have hf : rise 0 next l = false := by
          cases hr : rise 0 next l
          · rfl
          · have := HR.out.1 hr k (by rw [HN.out]; exact hlt)
            rw [hnx] at this
            exact absurd this hg
        have HF : Hid (EncP w (logB next l) (erF (rise 0 next l)) = EncP w [] 11) := Lib.hid (by unfold logB; rw [hf]; rfl)
        have hBY : Below w.heap.size w Y := HBW.out.trans (HY.out.2.mono HBW.out.size)
        clear hf
        have hg' : x.num ≤ ahd 0 l k ∨ (ahd 0 l k < x.num ∧ next ≤ x.num) := by omega
        clear hg
        rcases hg' with g1 | ⟨g1, g2⟩
        · go_wp2_with fail
          go_ret2
          rw [HF.out]
          exact EncP.no hBY
        · go_wp2_with fail
          go_ret2
          rw [HF.out]
          exact EncP.no hBY
    · obtain rfl : k = n := by omega
      have hr1 : rise 0 next l = true := HR.out.2 (fun j hj => hris j (by rw [HN.out] at hj; exact hj))
      have hall : preL next l k = bytesL next l := by have := preL_all next l; rw [HN.out] at this; exact this
      have hbl : (bytesL next l).length = 3 + k * 34 := by rw [bytesL_len HL.out.ok, HN.out]
      have HF : Hid (EncP w (logB next l) (erF (rise 0 next l)) = EncP w (bytesL next l) 0) := Lib.hid (by unfold logB; rw [hr1]; rfl)
      rw [hall] at hown
      have hBx := HBW.out.trans (hbr.mono HBW.out.size)
      obtain ⟨A4, c4, rfl, -⟩ := own_form hown
      have HO := Lib.hid (And.intro hown (And.intro hBx hbl))
      have HM := Lib.hid hr1
      clear hown hbr hris hall hbl hBx hr1
      have hlt' : ¬ (k : Int) < (k : Int) := by omega
      go_wp2_with fail
      go_ret2
      rw [HF.out]
      exact EncP.own HO.out.2.2.symm HO.out.1 HO.out.2.1

set_option maxHeartbeats 16000000 in
set_option maxRecDepth 100000 in
theorem rlog_yes {next : Int} {A : Option Addr} {n c B : Nat} {l : List LE} (h1 : 1 ≤ next) (h2 : next ≤ 65535) (h8 : n ≤ 8) (w : World) (hl : LgAt w B A n c l) (hB : B ≤ w.heap.size) : Calls Try.prog 25 #[lgv next A n c] w (EncP w (logB next l) (erF (rise 0 next l))) := by
  have hln := hl.len
  have hH := head3 next n h1 h2 h8
  have i8 : ¬ (8 : Int) < (n : Int) := by omega
  have hRi := rise_iff next l 0
  have hz := leZ
  have hone0 := one_le le0
  obtain ⟨z, hzz⟩ : ∃ z, le0.cells = z := ⟨_, rfl⟩
  have hzl : z.length = 33 := by rw [← hzz]; exact le0_ok.len
  rw [hzz] at hz
  clear hzz
  obtain ⟨hd, hhd⟩ : ∃ b, headL next n = b := ⟨_, rfl⟩
  have hP0 : Hid (preL next l 0 = hd) := Lib.hid (by rw [preL_zero, hln, hhd])
  have hHl : hd.length = 3 := by rw [← hhd]; rfl
  rw [hhd] at hH
  clear hhd
  have HL := Lib.hid hl
  have HN := Lib.hid hln
  have HR := Lib.hid hRi
  have HH := Lib.hid hH
  clear hl hH hRi hln
  unfold lgv
  go_enter Try.func25, Try.ntmps25
  go_upto_region 1 with (fail)
  obtain ⟨W, hW⟩ : ∃ W, w.alloc (.cells #[.int .i64 next, .slice A n c] 46) = W := ⟨_, rfl⟩
  try rw [hW]
  have a1 : W.heap[w.heap.size]? = some (.cells #[.int .i64 next, .slice A n c] 46) := by rw [← hW]; exact heap_alloc_new _ _
  have hBW : Below w.heap.size w W := by rw [← hW]; exact (Below.refl _ _).alloc (Nat.le_refl _) _
  have c0 := blk_cell a1 (k := 0) rfl
  have c1 := blk_cell a1 (k := 1) rfl
  have hzW := (Array.getElem?_eq_some_iff.1 a1).1
  clear hW
  go_upto_region 5 with (fail)
  obtain ⟨Wa, hWa⟩ : ∃ X, W.alloc (.cells (bvs hd).toArray 5) = X := ⟨_, rfl⟩
  rw [← HH.out, hWa]
  have hbA : Below W.heap.size W Wa := by rw [← hWa]; exact (Below.refl _ _).alloc (Nat.le_refl _) _
  have bH : Wa.heap[W.heap.size]? = some (.cells (bvs hd).toArray 5) := by rw [← hWa]; exact heap_alloc_new _ _
  have hBA := hBW.trans (hbA.mono hBW.size)
  have own0 : Wa.ownsRow W.heap.size 5 1 (.slice (some ⟨W.heap.size, 0, none⟩) 3 3) (3 + 0 * 34) (bvs (preL next l 0)) := by
    rw [hP0.out]; exact own_lit (Nat.le_refl _) bH (by simp [bvs_len, hHl]) (by simp [maxLen])
  have aW := a1
  replace a1 := bBlk hbA hzW a1
  replace c0 := blk_cell a1 (k := 0) rfl
  replace c1 := blk_cell a1 (k := 1) rfl
  have HBW := Lib.hid hBW
  clear hWa bH hBW
  have HA := Lib.hid aW
  clear a1 aW
  go_wp2_with fail
  go_loopw [4, 5, 6] (fun vb va vi wr => ∃ k : Nat, k ≤ n ∧ vi = .int .i64 k ∧ va = .int .i64 (ahd 0 l k) ∧ wr.ownsRow W.heap.size 5 1 vb (3 + k * 34) (bvs (preL next l k)) ∧ Below W.heap.size W wr ∧ (∀ j : Nat, j < k → ahd 0 l j < numAt l j ∧ numAt l j < next)) (fun _ _ vi _ => n - (intOf vi).toNat)
  case atStart => exact ⟨0, by omega, rfl, rfl, own0, hbA, fun j hj => absurd hj (by omega)⟩
  case round =>
    clear own0 hbA hBA c0 c1
    obtain ⟨k, hk, rfl, rfl, hown, hbr, hris⟩ := hrel
    have hwW : w.heap.size ≤ W.heap.size := Nat.le_of_lt hzW
    have c0 : wr.cell? ⟨w.heap.size, 0, none⟩ = some (.int .i64 next) := blk_cell (bBlk hbr hzW HA.out) (k := 0) rfl
    have c1 : wr.cell? ⟨w.heap.size, 1, none⟩ = some (.slice A n c) := blk_cell (bBlk hbr hzW HA.out) (k := 1) rfl
    by_cases hlt : k < n
    · obtain ⟨x, hx⟩ : ∃ x, l[k]? = some x := ⟨_, List.getElem?_eq_getElem (by rw [HN.out]; exact hlt)⟩
      have hxo := HL.out.ok x (List.mem_of_getElem? hx)
      obtain ⟨b, o, rfl, hbB, hxr⟩ := HL.out.entry hx
      have hnx := numAt_of hx
      have hpx := Lib.hid (preL_succ (next := next) hx)
      have hbw : b < W.heap.size := by omega
      have hBr := HBW.out.trans (hbr.mono HBW.out.size)
      replace hxr := bRange hBr (by omega) hxr
      have hzwr : w.heap.size < wr.heap.size := by have := hbr.size; omega
      have hxi := le_info hxo
      have hxli := le_leninfo hxo
      have hxs : z.toArray.size = x.cells.toArray.size := by rw [List.size_toArray, List.size_toArray, hzl, hxo.len]
      have hone := one_le x
      have hi1 : (k : Int) < (n : Int) := by omega
      obtain ⟨A4, c4, rfl, -⟩ := own_form hown
      obtain ⟨Y, hY, y7, bY⟩ := newRow wr z.toArray x.cells.toArray 66
      obtain ⟨e0, rk⟩ := key_range hxo y7
      have hzY := (Array.getElem?_eq_some_iff.1 y7).1
      have d0 := (bY.cell (p := ⟨w.heap.size, 0, none⟩) hzwr).trans c0
      have hbY := hbr.trans (bY.mono hbr.size)
      have hownY := own_below hown bY
      have hah := ahd_nonneg k hris
      have hlt4 : ∀ q, (Value.slice A4 (3 + k * 34) c4).ownBlock = some q → q < wr.heap.size := fun q hq => (hown.lt q hq).2
      have hkl := hxo.key
      obtain ⟨m, hm⟩ : ∃ m, 3 + k * 34 = m := ⟨_, rfl⟩
      rw [hm] at hownY hlt4
      rw [hm]
      have HY := Lib.hid (And.intro hownY hbY)
      have HO := Lib.hid hris
      have HM := Lib.hid hm
      have hmb : m ≤ 300 := by omega
      clear hown hbr hris hownY hbY y7 hBr hm
      go_upto_region 9 with (first
        | (refine wpList_load_mid rfl 66 (.tmp 44) rfl b (o + k * 33) rfl x.cells _ hxr Try.underlying66 rfl hxli ?_)
        | (refine wpList_new rfl hz rfl ?_)
        | (refine wpList_store_row rfl 66 (.tmp 7) (.tmp 45) rfl _ x.cells.toArray rfl rfl _ z.toArray (heap_alloc_new _ _) hxi hxs (all_oneCell_toArray hone) ?_; (try rw [hY]))
        | fail)
      clear hY hxr
      by_cases hg : ahd 0 l k < x.num ∧ x.num < next
      · obtain ⟨g1, g2⟩ := hg
        have g3 : x.num ≤ 65535 := by omega
        have g4 : 0 ≤ x.num := by omega
        go_upto_region 12 with (fail)
        have ew1 : IntKind.u8.wrap (x.num / 256) = x.num / 256 := by show (x.num / 256) % 256 = _; omega
        have ew2 : IntKind.u8.wrap x.num = x.num % 256 := rfl
        obtain ⟨hownY, hbY⟩ := HY.out
        have hYW : W.heap.size ≤ Y.heap.size := hbY.size
        obtain ⟨V1, hV1⟩ : ∃ V, (Y.alloc (.cells #[.int .u8 (x.num / 256), .int .u8 (x.num % 256)] 5)).drew = V := ⟨_, rfl⟩
        have own1 : V1.ownsRow W.heap.size 5 1 (.slice A4 m c4) m (bvs (preL next l k)) := by rw [← hV1]; exact hownY.alloc _
        have s1 : Sl V1 V1.heap.size 1 (some ⟨Y.heap.size, 0, none⟩) 2 (bvs [u8 (x.num / 256), u8 x.num]) := by
          rw [two_cells _ g4 g3, ← hV1]
          exact (Sl.new (n := 2) (heap_alloc_new _ _) rfl).drew
        have bYV : Below Y.heap.size Y V1 := by rw [← hV1]; exact ((Below.refl _ Y).alloc (Nat.le_refl _) _).drew
        have hbV := hbY.trans (bYV.mono hYW)
        have zV := hbV.size
        have zYV := bYV.size
        have rk1 := bRange bYV hzY rk
        obtain ⟨A5, c5, w1, hrun1, row1, hg1, hat1⟩ := run_app (P := Try.prog) V1 (ty := 24) (t := 24) Try.underlying24 elemC own1 s1 (c := 2) (oneCell_bvs _) (by simp only [maxLen]; omega) (by omega) zV
        have q0 : V1.cell? ⟨wr.heap.size, 0, none⟩ = some (.int .i64 x.num) := (bYV.cell (p := ⟨wr.heap.size, 0, none⟩) hzY).trans e0
        have q1 : w1.cell? ⟨wr.heap.size, 0, none⟩ = some (.int .i64 x.num) := (World.cell?_of_block (a := ⟨wr.heap.size, 0, none⟩) (hg1.block wr.heap.size (by omega) (fun e => by have := hlt4 _ e.symm; omega))).trans q0
        have rk2 := range_grown hg1 (by omega) (fun e => by have := hlt4 _ e; omega) rk1
        have b1 : Below W.heap.size V1 w1 := (Below.refl _ V1).grown hg1 zV (own_ge own1)
        have z1 := b1.size
        have s2 : Sl w1 w1.heap.size 1 (some ⟨wr.heap.size, 1, none⟩) 32 (bvs x.key) := ⟨by rw [bvs_len, hkl], fun _ => ⟨wr.heap.size, 1, rfl, by omega, rk2⟩⟩
        obtain ⟨A6, c6, w2, hrun2, row2, hg2, -⟩ := run_app (P := Try.prog) w1 (ty := 24) (t := 24) Try.underlying24 elemC row1 s2 (c := 32) (oneCell_bvs _) (by simp only [maxLen]; omega) (by omega) (by omega)
        have q2 : w2.cell? ⟨wr.heap.size, 0, none⟩ = some (.int .i64 x.num) := (World.cell?_of_block (a := ⟨wr.heap.size, 0, none⟩) (hg2.block wr.heap.size (by omega) (fun e => by rcases hat1 with h | h <;> rw [h] at e; (have := hlt4 _ e.symm; omega); (injection e with e; omega)))).trans q1
        have b2 : Below W.heap.size V1 w2 := b1.trans ((Below.refl _ w1).grown hg2 (by omega) (own_ge row1))
        rw [← bvs_append, ← bvs_append, ← hpx.out] at row2
        have HO2 := Lib.hid (And.intro row2 (hbV.trans b2))
        obtain ⟨m2, hm2⟩ : ∃ q, m + 2 = q := ⟨_, rfl⟩
        rw [hm2] at hrun1 hrun2 HO2
        obtain ⟨m3, hm3⟩ : ∃ q, m2 + 32 = q := ⟨_, rfl⟩
        rw [hm3] at hrun2 HO2
        have HM3 : Hid (m3 = 3 + (k + 1) * 34) := Lib.hid (by have := HM.out; omega)
        clear c1 hownY hbY own1 s1 bYV hbV zV zYV rk1 row1 hg1 rk2 b1 z1 s2 row2 hg2 b2 hm2 hm3 hlt4 rk d0
        have HQ := Lib.hid (And.intro q0 (And.intro q1 q2))
        clear q0 q1 q2 hat1
        let S : World → Prop := fun w' => w'.cell? ⟨wr.heap.size, 0, none⟩ = some (.int .i64 x.num)
        refine wp_region_held (S := S) (by kernel_rfl) ?_
        change wpAnyH _ _ _ _ S _ _ _ Y.drew
        have hS0 : S Y.drew := e0
        refine wpAnyH_take (i := 0) (oi := ?oi_150) (v := ?v_150) ?ho_150 ?h1_150 ?h2_150 ?h3_150 ?hq_150 (Or.inl ⟨?hw_150, ?hy_150⟩) ?hs_150 ?rest_150; (case h2_150 => kernel_rfl); (case h3_150 => kernel_rfl); (case ho_150 => (simp only [List.getElem?_toArray, List.getElem?_cons_zero, List.getElem?_cons_succ]; rfl)); (case h1_150 => kernel_rfl); (case hq_150 => exact fun _ _ _ h => h); (case hw_150 => rfl); (case hy_150 => (intro w' hSw; (try simp only [S] at hSw); go_simp; (try with_reducible rfl))); (case hs_150 => assumption); (try simp only [Act.put, List.setIfInBounds_toArray, List.set_cons_zero, List.set_cons_succ])
        refine wpAnyH_take (i := 1) (oi := ?oi_151) (v := ?v_151) ?ho_151 ?h1_151 ?h2_151 ?h3_151 ?hq_151 (Or.inl ⟨?hw_151, ?hy_151⟩) ?hs_151 ?rest_151; (case h2_151 => kernel_rfl); (case h3_151 => kernel_rfl); (case ho_151 => (simp only [List.getElem?_toArray, List.getElem?_cons_zero, List.getElem?_cons_succ]; rfl)); (case h1_151 => kernel_rfl); (case hq_151 => exact fun _ _ _ h => h); (case hw_151 => rfl); (case hy_151 => (intro w' hSw; (try simp only [S] at hSw); go_simp; (try with_reducible rfl))); (case hs_151 => assumption); (try simp only [Act.put, List.setIfInBounds_toArray, List.set_cons_zero, List.set_cons_succ])
        refine wpAnyH_take (i := 2) (oi := ?oi_152) (v := ?v_152) ?ho_152 ?h1_152 ?h2_152 ?h3_152 ?hq_152 (Or.inl ⟨?hw_152, ?hy_152⟩) ?hs_152 ?rest_152; (case h2_152 => kernel_rfl); (case h3_152 => kernel_rfl); (case ho_152 => (simp only [List.getElem?_toArray, List.getElem?_cons_zero, List.getElem?_cons_succ]; rfl)); (case h1_152 => kernel_rfl); (case hq_152 => exact fun _ _ _ h => h); (case hw_152 => rfl); (case hy_152 => (intro w' hSw; (try simp only [S] at hSw); go_simp; (try with_reducible rfl))); (case hs_152 => assumption); (try simp only [Act.put, List.setIfInBounds_toArray, List.set_cons_zero, List.set_cons_succ])
        refine wpAnyH_take (i := 3) (oi := ?oi_153) (v := ?v_153) ?ho_153 ?h1_153 ?h2_153 ?h3_153 ?hq_153 (Or.inl ⟨?hw_153, ?hy_153⟩) ?hs_153 ?rest_153; (case h2_153 => kernel_rfl); (case h3_153 => kernel_rfl); (case ho_153 => (simp only [List.getElem?_toArray, List.getElem?_cons_zero, List.getElem?_cons_succ]; rfl)); (case h1_153 => kernel_rfl); (case hq_153 => exact fun _ _ _ h => h); (case hw_153 => rfl); (case hy_153 => (intro w' hSw; (try simp only [S] at hSw); go_simp; (try with_reducible rfl))); (case hs_153 => assumption); (try simp only [Act.put, List.setIfInBounds_toArray, List.set_cons_zero, List.set_cons_succ])
        refine wpAnyH_take (i := 4) (oi := ?oi_154) (v := ?v_154) ?ho_154 ?h1_154 ?h2_154 ?h3_154 ?hq_154 (Or.inl ⟨?hw_154, ?hy_154⟩) ?hs_154 ?rest_154; (case h2_154 => kernel_rfl); (case h3_154 => kernel_rfl); (case ho_154 => (simp only [List.getElem?_toArray, List.getElem?_cons_zero, List.getElem?_cons_succ]; rfl)); (case h1_154 => kernel_rfl); (case hq_154 => exact fun _ _ _ h => h); (case hw_154 => rfl); (case hy_154 => (intro w' hSw; (try simp only [S] at hSw); go_simp; (try with_reducible rfl))); (case hs_154 => assumption); (try simp only [Act.put, List.setIfInBounds_toArray, List.set_cons_zero, List.set_cons_succ])
        refine wpAnyH_take (i := 5) (oi := ?oi_155) (v := ?v_155) ?ho_155 ?h1_155 ?h2_155 ?h3_155 ?hq_155 (Or.inl ⟨?hw_155, ?hy_155⟩) ?hs_155 ?rest_155; (case h2_155 => kernel_rfl); (case h3_155 => kernel_rfl); (case ho_155 => (simp only [List.getElem?_toArray, List.getElem?_cons_zero, List.getElem?_cons_succ]; rfl)); (case h1_155 => kernel_rfl); (case hq_155 => exact fun _ _ _ h => h); (case hw_155 => rfl); (case hy_155 => (intro w' hSw; (try simp only [S] at hSw); go_simp; (try with_reducible rfl))); (case hs_155 => assumption); (try simp only [Act.put, List.setIfInBounds_toArray, List.set_cons_zero, List.set_cons_succ])
        refine wpAnyH_take (i := 6) (oi := ?oi_156) (v := ?v_156) ?ho_156 ?h1_156 ?h2_156 ?h3_156 ?hq_156 (Or.inl ⟨?hw_156, ?hy_156⟩) ?hs_156 ?rest_156; (case h2_156 => kernel_rfl); (case h3_156 => kernel_rfl); (case ho_156 => (simp only [List.getElem?_toArray, List.getElem?_cons_zero, List.getElem?_cons_succ]; rfl)); (case h1_156 => kernel_rfl); (case hq_156 => exact fun _ _ _ h => h); (case hw_156 => rfl); (case hy_156 => (intro w' hSw; (try simp only [S] at hSw); go_simp; (try with_reducible rfl))); (case hs_156 => assumption); (try simp only [Act.put, List.setIfInBounds_toArray, List.set_cons_zero, List.set_cons_succ])
        refine wpAnyH_take (i := 7) (oi := ?oi_157) (v := ?v_157) ?ho_157 ?h1_157 ?h2_157 ?h3_157 ?hq_157 (Or.inl ⟨?hw_157, ?hy_157⟩) ?hs_157 ?rest_157; (case h2_157 => kernel_rfl); (case h3_157 => kernel_rfl); (case ho_157 => (simp only [List.getElem?_toArray, List.getElem?_cons_zero, List.getElem?_cons_succ]; rfl)); (case h1_157 => kernel_rfl); (case hq_157 => exact fun _ _ _ h => h); (case hw_157 => rfl); (case hy_157 => (intro w' hSw; (try simp only [S] at hSw); go_simp; (try with_reducible rfl))); (case hs_157 => assumption); (try simp only [Act.put, List.setIfInBounds_toArray, List.set_cons_zero, List.set_cons_succ])
        refine wpAnyH_take (i := 10) (oi := ?oi_158) (v := ?v_158) ?ho_158 ?h1_158 ?h2_158 ?h3_158 ?hq_158 (Or.inl ⟨?hw_158, ?hy_158⟩) ?hs_158 ?rest_158; (case h2_158 => kernel_rfl); (case h3_158 => kernel_rfl); (case ho_158 => (simp only [List.getElem?_toArray, List.getElem?_cons_zero, List.getElem?_cons_succ]; rfl)); (case h1_158 => kernel_rfl); (case hq_158 => exact fun _ _ _ h => h); (case hw_158 => rfl); (case hy_158 => (intro w' hSw; (try simp only [S] at hSw); go_simp; (try with_reducible rfl))); (case hs_158 => assumption); (try simp only [Act.put, List.setIfInBounds_toArray, List.set_cons_zero, List.set_cons_succ])
        refine wpAnyH_take (i := 11) (oi := ?oi_159) (v := ?v_159) ?ho_159 ?h1_159 ?h2_159 ?h3_159 ?hq_159 (Or.inl ⟨?hw_159, ?hy_159⟩) ?hs_159 ?rest_159; (case h2_159 => kernel_rfl); (case h3_159 => kernel_rfl); (case ho_159 => (simp only [List.getElem?_toArray, List.getElem?_cons_zero, List.getElem?_cons_succ]; rfl)); (case h1_159 => kernel_rfl); (case hq_159 => exact fun _ _ _ h => h); (case hw_159 => rfl); (case hy_159 => (intro w' hSw; (try simp only [S] at hSw); go_simp; (try with_reducible rfl))); (case hs_159 => assumption); (try simp only [Act.put, List.setIfInBounds_toArray, List.set_cons_zero, List.set_cons_succ])
        refine wpAnyH_ready (rs := [8]) (by kernel_rfl) (by simp) (AllReadyH.cons (o := ?oo8_164) ?hoo8_164 (fun K hK => ?steponly164) AllReadyH.nil); (case hoo8_164 => (simp only [List.getElem?_toArray, List.getElem?_cons_zero, List.getElem?_cons_succ]; rfl))
        go_simp
        (try rw [hV1])
        refine hK.out _ _ HQ.out.1 (fun _ => ?_)
        clear hK K hV1
        (try simp only [Act.put, List.setIfInBounds_toArray, List.set_cons_zero, List.set_cons_succ])
        refine wpAnyH_ready (rs := [9]) (by kernel_rfl) (by simp) (AllReadyH.cons (o := ?oo9_165) ?hoo9_165 (fun K hK => ?steponly165) AllReadyH.nil); (case hoo9_165 => (simp only [List.getElem?_toArray, List.getElem?_cons_zero, List.getElem?_cons_succ]; rfl))
        go_simp
        refine hK.out _ _ HQ.out.2.1 (fun _ => ?_)
        clear hK K
        (try simp only [Act.put, List.setIfInBounds_toArray, List.set_cons_zero, List.set_cons_succ])
        refine wpAnyH_ready (rs := [12]) (by kernel_rfl) (by simp) (AllReadyH.cons (o := ?oo12_166) ?hoo12_166 (fun K hK => ?steponly166) AllReadyH.nil); (case hoo12_166 => (simp only [List.getElem?_toArray, List.getElem?_cons_zero, List.getElem?_cons_succ]; rfl))
        go_simp
        refine hK.out _ _ HQ.out.2.2 (fun _ => ?_)
        clear hK K
        (try simp only [Act.put, List.setIfInBounds_toArray, List.set_cons_zero, List.set_cons_succ])
        refine wpAnyH_take (i := 13) (oi := ?oi_160) (v := ?v_160) ?ho_160 ?h1_160 ?h2_160 ?h3_160 ?hq_160 (Or.inl ⟨?hw_160, ?hy_160⟩) ?hs_160 ?rest_160; (case h2_160 => kernel_rfl); (case h3_160 => kernel_rfl); (case ho_160 => (simp only [List.getElem?_toArray, List.getElem?_cons_zero, List.getElem?_cons_succ]; rfl)); (case h1_160 => kernel_rfl); (case hq_160 => exact fun _ _ _ h => h); (case hw_160 => rfl); (case hy_160 => (intro w' hSw; (try simp only [S] at hSw); go_simp; (try with_reducible rfl))); (case hs_160 => assumption); (try simp only [Act.put, List.setIfInBounds_toArray, List.set_cons_zero, List.set_cons_succ])
        refine wpAnyH_done (by kernel_rfl) ?_ _
        go_wp2_with fail
        go_roundw
        case rel => exact ⟨k + 1, by omega, by go_num, by rw [show ahd 0 l (k + 1) = x.num from by unfold ahd; rw [if_neg (by omega), Nat.add_sub_cancel, hnx]], by rw [← HM3.out]; exact HO2.out.1, HO2.out.2, fun j hj => by
          rcases Nat.lt_or_ge j k with h | h
          · exact HO.out j h
          · obtain rfl : j = k := by omega
            rw [hnx]; exact ⟨g1, g2⟩⟩
        case measure => simp [intOf]; omega
      · have hf : rise 0 next l = false := by
          cases hr : rise 0 next l
          · rfl
          · have := HR.out.1 hr k (by rw [HN.out]; exact hlt)
            rw [hnx] at this
            exact absurd this hg
        have HF : Hid (EncP w (logB next l) (erF (rise 0 next l)) = EncP w [] 11) := Lib.hid (by unfold logB; rw [hf]; rfl)
        have hBY : Below w.heap.size w Y := HBW.out.trans (HY.out.2.mono HBW.out.size)
        clear hf
        have hg' : x.num ≤ ahd 0 l k ∨ (ahd 0 l k < x.num ∧ next ≤ x.num) := by omega
        clear hg
        rcases hg' with g1 | ⟨g1, g2⟩
        · go_wp2_with fail
          go_ret2
          rw [HF.out]
          exact EncP.no hBY
        · go_wp2_with fail
          go_ret2
          rw [HF.out]
          exact EncP.no hBY
    · obtain rfl : k = n := by omega
      have hr1 : rise 0 next l = true := HR.out.2 (fun j hj => hris j (by rw [HN.out] at hj; exact hj))
      have hall : preL next l k = bytesL next l := by have := preL_all next l; rw [HN.out] at this; exact this
      have hbl : (bytesL next l).length = 3 + k * 34 := by rw [bytesL_len HL.out.ok, HN.out]
      have HF : Hid (EncP w (logB next l) (erF (rise 0 next l)) = EncP w (bytesL next l) 0) := Lib.hid (by unfold logB; rw [hr1]; rfl)
      rw [hall] at hown
      have hBx := HBW.out.trans (hbr.mono HBW.out.size)
      obtain ⟨A4, c4, rfl, -⟩ := own_form hown
      have HO := Lib.hid (And.intro hown (And.intro hBx hbl))
      have HM := Lib.hid hr1
      clear hown hbr hris hall hbl hBx hr1
      have hlt' : ¬ (k : Int) < (k : Int) := by omega
      go_wp2_with fail
      go_ret2
      rw [HF.out]
      exact EncP.own HO.out.2.2.symm HO.out.1 HO.out.2.1

theorem encL_bad {next : Int} {l : List LE} (h : ¬ (1 ≤ next ∧ next ≤ 65535 ∧ l.length ≤ 8)) : encL next l = [] ∧ goodL next l = false := by
  have hg : goodL next l = false := by unfold goodL; rw [decide_eq_false h]; rfl
  exact ⟨by unfold encL; rw [hg]; rfl, hg⟩
theorem encL_ok {next : Int} {l : List LE} (h : 1 ≤ next ∧ next ≤ 65535 ∧ l.length ≤ 8) : encL next l = logB next l ∧ goodL next l = rise 0 next l := by
  have hg : goodL next l = rise 0 next l := by unfold goodL; rw [decide_eq_true h]; rfl
  exact ⟨by unfold encL logB; rw [hg], hg⟩
theorem log_any {next : Int} {A : Option Addr} {n c B : Nat} {l : List LE} (w : World) (hl : LgAt w B A n c l) (hB : B ≤ w.heap.size) : Calls Try.prog 24 #[lgv next A n c] w (EncP w (encL next l) (erF (goodL next l))) := by
  by_cases h : 1 ≤ next ∧ next ≤ 65535 ∧ l.length ≤ 8
  · rw [(encL_ok h).1, (encL_ok h).2]
    exact log_yes h.1 h.2.1 (by rw [← hl.len]; exact h.2.2) w hl hB
  · rw [(encL_bad h).1, (encL_bad h).2]
    exact log_no (by rw [hl.len] at h; omega) w
theorem rlog_any {next : Int} {A : Option Addr} {n c B : Nat} {l : List LE} (w : World) (hl : LgAt w B A n c l) (hB : B ≤ w.heap.size) : Calls Try.prog 25 #[lgv next A n c] w (EncP w (encL next l) (erF (goodL next l))) := by
  by_cases h : 1 ≤ next ∧ next ≤ 65535 ∧ l.length ≤ 8
  · rw [(encL_ok h).1, (encL_ok h).2]
    exact rlog_yes h.1 h.2.1 (by rw [← hl.len]; exact h.2.2) w hl hB
  · rw [(encL_bad h).1, (encL_bad h).2]
    exact rlog_no (by rw [hl.len] at h; omega) w
end Go.Proofs.Ytjfkaebikmnnaaa
