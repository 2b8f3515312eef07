/- The walks over EncodeLog and its reference. -/
import Derived.Test.YtjfkaebikmnnaaaRevWalk
import Derived.Test.YtjfkaebikmnnaaaRevPlain2
import Derived.Test.YtjfkaebikmnnaaaMany
namespace Go.Proofs.Ytjfkaebikmnnaaa
set_option linter.unusedSimpArgs false
set_option linter.unusedVariables false
open Go.RowKit Go.Sort

def le0 : LE := ⟨0, List.replicate 32 0⟩
theorem le0_ok : le0.Ok := ⟨by simp [le0], by simp [le0]⟩
theorem leZ : ZeroIs Try.prog 66 le0.cells.toArray := by
  unfold ZeroIs
  rw [List.size_toArray, le0_ok.len]
  kernel_rfl
theorem le_size : (Try.prog.info? 66).map (·.size) = some 33 := by kernel_rfl
theorem le_info {x : LE} (h : x.Ok) : (Try.prog.info? 66).map (·.size) = some x.cells.toArray.size := by rw [List.size_toArray, h.len]; exact le_size
theorem le_leninfo {x : LE} (h : x.Ok) : (Try.prog.info? 66).map (·.size) = some x.cells.length := by rw [h.len]; exact le_size
theorem le_sizes {a b : LE} (ha : a.Ok) (hb : b.Ok) : a.cells.toArray.size = b.cells.toArray.size := by rw [List.size_toArray, List.size_toArray, ha.len, hb.len]
theorem one_le (x : LE) : ∀ u ∈ x.cells, u.oneCell' = true := fun u hu => by
  unfold LE.cells at hu
  rcases List.mem_cons.1 hu with rfl | h
  · rfl
  · exact oneCell_bvs _ u h
/-- a log by value -/
def lgv (next : Int) (A : Option Addr) (n c : Nat) : Value := .agg #[.int .i64 next, .slice A n c]
def les (l : List LE) : List Value := l.flatMap LE.cells
theorem ahd_nonneg {l : List LE} {next : Int} : ∀ k : Nat, (∀ j : Nat, j < k → ahd 0 l j < numAt l j ∧ numAt l j < next) → 0 ≤ ahd 0 l k
  | 0, _ => by simp [ahd]
  | k + 1, h => by
    have ih := ahd_nonneg k (fun j hj => h j (by omega))
    have := (h k (by omega)).1
    unfold ahd
    rw [if_neg (by omega), Nat.add_sub_cancel]
    omega
theorem range_grown {w w' : World} {row : Option Nat} (hg : w.grownBy w' row) {b o : Nat} {cs : List Value} (hb : b < w.heap.size) (hne : row ≠ some b) (hr : w.rangeAt b o cs) : w'.rangeAt b o cs :=
  fun j v hj => (World.cell?_of_block (a := ⟨b, o + j, none⟩) (hg.block b hb (fun e => hne e.symm))).trans (hr j v hj)
def logB (next : Int) (l : List LE) : List UInt8 := if rise 0 next l then bytesL next l else []
/-- a slice reads as a list of entries -/
structure LgAt (w : World) (B : Nat) (A : Option Addr) (n c : Nat) (l : List LE) : Prop where
  ok : ∀ x ∈ l, x.Ok
  len : l.length = n
  sl : Sl w B 33 A n (les l)
  cap : n ≤ c
theorem LgAt.below {w w' : World} {B : Nat} {A : Option Addr} {n c : Nat} {l : List LE} (h : LgAt w B A n c l) (hb : Below B w w') : LgAt w' B A n c l := ⟨h.ok, h.len, h.sl.below hb, h.cap⟩
theorem les_part {l : List LE} (h : ∀ x ∈ l, x.Ok) {k : Nat} {x : LE} (hx : l[k]? = some x) : ((les l).drop (k * 33)).take 33 = x.cells := by
  induction l generalizing k with
  | nil => simp at hx
  | cons y l ih =>
    have hy := (h y (by simp)).len
    match k with
    | 0 =>
      simp at hx; subst hx
      simp [les, List.flatMap_cons, ← hy]
    | k + 1 =>
      have := ih (fun x hx => h x (by simp [hx])) (k := k) (by simpa using hx)
      rw [les, List.flatMap_cons, Nat.add_mul, Nat.one_mul, Nat.add_comm (k * 33), ← List.drop_drop]
      conv => lhs; rw [← hy, List.drop_left]
      rw [hy]; exact this
theorem LgAt.entry {w : World} {B : Nat} {A : Option Addr} {n c : Nat} {l : List LE} (h : LgAt w B A n c l) {k : Nat} {x : LE} (hx : l[k]? = some x) : ∃ b o, A = some ⟨b, o, none⟩ ∧ b < B ∧ w.rangeAt b (o + k * 33) x.cells := by
  obtain ⟨hk, -⟩ := List.getElem?_eq_some_iff.1 hx
  obtain ⟨b, o, e, hb, hr, hc⟩ := h.sl.elem (k := k) (by rw [← h.len]; exact hk)
  rw [les_part h.ok hx] at hc
  exact ⟨b, o, e, hb, hc⟩
theorem key_range {w : World} {g : Nat} {x : LE} (hs : x.Ok) (h : w.heap[g]? = some (.cells x.cells.toArray 66)) : w.cell? ⟨g, 0, none⟩ = some (.int .i64 x.num) ∧ w.rangeAt g 1 (bvs x.key) := by
  refine ⟨blk_cell h rfl, fun j v hj => ?_⟩
  refine blk_cell h ?_
  rw [List.getElem?_toArray, LE.cells, Nat.add_comm, List.getElem?_cons_succ]
  exact hj
theorem head3 (next : Int) (n : Nat) (h0 : 1 ≤ next) (h1 : next ≤ 65535) (h2 : n ≤ 8) : (bvs (headL next n)).toArray = #[Value.int .u8 (next / 256), Value.int .u8 (next % 256), Value.int .u8 (n : Int)] := by
  simp only [headL, bvs, List.map_cons, List.map_nil, bv_u8]
  rw [show next / 256 % 256 = next / 256 from by omega, show (n : Int) % 256 = (n : Int) from by omega]
theorem two_cells (z : Int) (h0 : 0 ≤ z) (h1 : z ≤ 65535) : bvs [u8 (z / 256), u8 z] = [Value.int .u8 (z / 256), Value.int .u8 (z % 256)] := by
  simp only [bvs, List.map_cons, List.map_nil, bv_u8]
  rw [show z / 256 % 256 = z / 256 from by omega]
theorem own_lit' {W : World} {base g n : Nat} {cs : List Value} {t : TypeId} (hb : base ≤ g) (h : W.heap[g]? = some (.cells cs.toArray t)) (hn : cs.length = n) (hm : n ≤ maxLen) : W.ownsRow base t 1 (.slice (some ⟨g, 0, none⟩) n n) n cs := own_lit hb h hn hm

set_option maxHeartbeats 4000000 in
set_option maxRecDepth 100000 in
theorem log_no {next : Int} {A : Option Addr} {n c : Nat} (h : next < 1 ∨ (1 ≤ next ∧ 65535 < next) ∨ (1 ≤ next ∧ next ≤ 65535 ∧ 8 < n)) (w : World) : Calls Try.prog 24 #[lgv next A n c] w (EncP w [] 11) := by
  unfold lgv
  have h3 : 8 < n → (8 : Int) < (n : Int) := by omega
  go_enter Try.func24, Try.ntmps24
  rcases h with h | ⟨h1, h⟩ | ⟨h1, h2, h⟩
  · clear h3
    go_wp2_with fail
    go_ret2
    exact EncP.no (by repeat (first | (with_reducible exact Below.refl _ _) | (with_reducible refine bDrewN ?_ _) | (with_reducible refine Below.drew ?_) | (with_reducible refine Below.alloc ?_ ?_ _) | (with_reducible refine Below.setCell ?_ ?_ _) | (with_reducible assumption) | go_size))
  · clear h3
    go_wp2_with fail
    go_ret2
    exact EncP.no (by repeat (first | (with_reducible exact Below.refl _ _) | (with_reducible refine bDrewN ?_ _) | (with_reducible refine Below.drew ?_) | (with_reducible refine Below.alloc ?_ ?_ _) | (with_reducible refine Below.setCell ?_ ?_ _) | (with_reducible assumption) | go_size))
  · replace h3 := h3 h
    go_wp2_with fail
    go_ret2
    exact EncP.no (by repeat (first | (with_reducible exact Below.refl _ _) | (with_reducible refine bDrewN ?_ _) | (with_reducible refine Below.drew ?_) | (with_reducible refine Below.alloc ?_ ?_ _) | (with_reducible refine Below.setCell ?_ ?_ _) | (with_reducible assumption) | go_size))

set_option maxHeartbeats 4000000 in
set_option maxRecDepth 100000 in
theorem rlog_no {next : Int} {A : Option Addr} {n c : Nat} (h : next < 1 ∨ (1 ≤ next ∧ 65535 < next) ∨ (1 ≤ next ∧ next ≤ 65535 ∧ 8 < n)) (w : World) : Calls Try.prog 25 #[lgv next A n c] w (EncP w [] 11) := by
  unfold lgv
  have h3 : 8 < n → (8 : Int) < (n : Int) := by omega
  go_enter Try.func25, Try.ntmps25
  rcases h with h | ⟨h1, h⟩ | ⟨h1, h2, h⟩
  · clear h3
    go_wp2_with fail
    go_ret2
    exact EncP.no (by repeat (first | (with_reducible exact Below.refl _ _) | (with_reducible refine bDrewN ?_ _) | (with_reducible refine Below.drew ?_) | (with_reducible refine Below.alloc ?_ ?_ _) | (with_reducible refine Below.setCell ?_ ?_ _) | (with_reducible assumption) | go_size))
  · clear h3
    go_wp2_with fail
    go_ret2
    exact EncP.no (by repeat (first | (with_reducible exact Below.refl _ _) | (with_reducible refine bDrewN ?_ _) | (with_reducible refine Below.drew ?_) | (with_reducible refine Below.alloc ?_ ?_ _) | (with_reducible refine Below.setCell ?_ ?_ _) | (with_reducible assumption) | go_size))
  · replace h3 := h3 h
    go_wp2_with fail
    go_ret2
    exact EncP.no (by repeat (first | (with_reducible exact Below.refl _ _) | (with_reducible refine bDrewN ?_ _) | (with_reducible refine Below.drew ?_) | (with_reducible refine Below.alloc ?_ ?_ _) | (with_reducible refine Below.setCell ?_ ?_ _) | (with_reducible assumption) | go_size))

attribute [-go_sem] Builtin.append_
set_option maxHeartbeats 16000000 in
set_option maxRecDepth 100000 in
theorem log_yes {next : Int} {A : Option Addr} {n c B : Nat} {l : List LE} (h1 : 1 ≤ next) (h2 : next ≤ 65535) (h8 : n ≤ 8) (w : World) (hl : LgAt w B A n c l) (hB : B ≤ w.heap.size) : Calls Try.prog 24 #[lgv next A n c] w (EncP w (logB next l) (erF (rise 0 next l))) := by
  have hln := hl.len
  have hH := head3 next n h1 h2 h8
  have i8 : ¬ (8 : Int) < (n : Int) := by omega
  have hRi := rise_iff next l 0
  have hz := leZ
  have hone0 := one_le le0
  obtain ⟨z, hzz⟩ : ∃ z, le0.cells = z := ⟨_, rfl⟩
  have hzl : z.length = 33 := by rw [← hzz]; exact le0_ok.len
  rw [hzz] at hz
  clear hzz
  obtain ⟨hd, hhd⟩ : ∃ b, headL next n = b := ⟨_, rfl⟩
  have hP0 : Hid (preL next l 0 = hd) := Lib.hid (by rw [preL_zero, hln, hhd])
  have hHl : hd.length = 3 := by rw [← hhd]; rfl
  rw [hhd] at hH
  clear hhd
  have HL := Lib.hid hl
  have HN := Lib.hid hln
  have HR := Lib.hid hRi
  have HH := Lib.hid hH
  clear hl hH hRi hln
  unfold lgv
  go_enter Try.func24, Try.ntmps24
  go_upto_region 1 with (fail)
  obtain ⟨W, hW⟩ : ∃ W, w.alloc (.cells #[.int .i64 next, .slice A n c] 46) = W := ⟨_, rfl⟩
  try rw [hW]
  have a1 : W.heap[w.heap.size]? = some (.cells #[.int .i64 next, .slice A n c] 46) := by rw [← hW]; exact heap_alloc_new _ _
  have hBW : Below w.heap.size w W := by rw [← hW]; exact (Below.refl _ _).alloc (Nat.le_refl _) _
  have c0 := blk_cell a1 (k := 0) rfl
  have c1 := blk_cell a1 (k := 1) rfl
  have hzW := (Array.getElem?_eq_some_iff.1 a1).1
  clear hW
  go_upto_region 5 with (fail)
  obtain ⟨Wa, hWa⟩ : ∃ X, W.alloc (.cells (bvs hd).toArray 5) = X := ⟨_, rfl⟩
  rw [← HH.out, hWa]
  have hbA : Below W.heap.size W Wa := by rw [← hWa]; exact (Below.refl _ _).alloc (Nat.le_refl _) _
  have bH : Wa.heap[W.heap.size]? = some (.cells (bvs hd).toArray 5) := by rw [← hWa]; exact heap_alloc_new _ _
  have hBA := hBW.trans (hbA.mono hBW.size)
  have own0 : Wa.ownsRow W.heap.size 5 1 (.slice (some ⟨W.heap.size, 0, none⟩) 3 3) (3 + 0 * 34) (bvs (preL next l 0)) := by
    rw [hP0.out]; exact own_lit (Nat.le_refl _) bH (by simp [bvs_len, hHl]) (by simp [maxLen])
  have aW := a1
  replace a1 := bBlk hbA hzW a1
  replace c0 := blk_cell a1 (k := 0) rfl
  replace c1 := blk_cell a1 (k := 1) rfl
  have HBW := Lib.hid hBW
  clear hWa bH hBW
  have HA := Lib.hid aW
  clear a1 aW
  go_wp2_with fail
  go_loopw [4, 5, 37] (fun vb va vi wr => ∃ k : Nat, k ≤ n ∧ vi = .int .i64 k ∧ va = .int .i64 (ahd 0 l k) ∧ wr.ownsRow W.heap.size 5 1 vb (3 + k * 34) (bvs (preL next l k)) ∧ Below W.heap.size W wr ∧ (∀ j : Nat, j < k → ahd 0 l j < numAt l j ∧ numAt l j < next)) (fun _ _ vi _ => n - (intOf vi).toNat)
  case atStart => exact ⟨0, by omega, rfl, rfl, own0, hbA, fun j hj => absurd hj (by omega)⟩
  case round =>
    clear own0 hbA hBA c0 c1
    obtain ⟨k, hk, rfl, rfl, hown, hbr, hris⟩ := hrel
    have hwW : w.heap.size ≤ W.heap.size := Nat.le_of_lt hzW
    have c0 : wr.cell? ⟨w.heap.size, 0, none⟩ = some (.int .i64 next) := blk_cell (bBlk hbr hzW HA.out) (k := 0) rfl
    have c1 : wr.cell? ⟨w.heap.size, 1, none⟩ = some (.slice A n c) := blk_cell (bBlk hbr hzW HA.out) (k := 1) rfl
    by_cases hlt : k < n
    · obtain ⟨x, hx⟩ : ∃ x, l[k]? = some x := ⟨_, List.getElem?_eq_getElem (by rw [HN.out]; exact hlt)⟩
      have hxo := HL.out.ok x (List.mem_of_getElem? hx)
      obtain ⟨b, o, rfl, hbB, hxr⟩ := HL.out.entry hx
      have hnx := numAt_of hx
      have hpx := Lib.hid (preL_succ (next := next) hx)
      have hbw : b < W.heap.size := by omega
      have hBr := HBW.out.trans (hbr.mono HBW.out.size)
      replace hxr := bRange hBr (by omega) hxr
      have hzwr : w.heap.size < wr.heap.size := by have := hbr.size; omega
      have hxi := le_info hxo
      have hxli := le_leninfo hxo
      have hxs : z.toArray.size = x.cells.toArray.size := by rw [List.size_toArray, List.size_toArray, hzl, hxo.len]
      have hone := one_le x
      have hi1 : (k : Int) < (n : Int) := by omega
      obtain ⟨A4, c4, rfl, -⟩ := own_form hown
      obtain ⟨Y, hY, y7, bY⟩ := newRow wr z.toArray x.cells.toArray 66
      obtain ⟨e0, rk⟩ := key_range hxo y7
      have hzY := (Array.getElem?_eq_some_iff.1 y7).1
      have d0 := (bY.cell (p := ⟨w.heap.size, 0, none⟩) hzwr).trans c0
      have hbY := hbr.trans (bY.mono hbr.size)
      have hownY := own_below hown bY
      have hah := ahd_nonneg k hris
      have hlt4 : ∀ q, (Value.slice A4 (3 + k * 34) c4).ownBlock = some q → q < wr.heap.size := fun q hq => (hown.lt q hq).2
      have hkl := hxo.key
      obtain ⟨m, hm⟩ : ∃ m, 3 + k * 34 = m := ⟨_, rfl⟩
      rw [hm] at hownY hlt4
      rw [hm]
      have HY := Lib.hid (And.intro hownY hbY)
      have HO := Lib.hid hris
      have HM := Lib.hid hm
      have hmb : m ≤ 300 := by omega
      clear hown hbr hris hownY hbY y7 hBr hm
      go_upto_region 8 with (first
        | (refine wpList_load_mid rfl 66 (.tmp 39) rfl b (o + k * 33) rfl x.cells _ hxr Try.underlying66 rfl hxli ?_)
        | (refine wpList_new rfl hz rfl ?_)
        | (refine wpList_store_row rfl 66 (.tmp 7) (.tmp 40) rfl _ x.cells.toArray rfl rfl _ z.toArray (heap_alloc_new _ _) hxi hxs (all_oneCell_toArray hone) ?_; (try rw [hY]))
        | fail)
      clear hY hxr
      by_cases hg : ahd 0 l k < x.num ∧ x.num < next
      · obtain ⟨g1, g2⟩ := hg
        have g3 : x.num ≤ 65535 := by omega
        have g4 : 0 ≤ x.num := by omega
        go_upto_region 11 with (fail)
        have ew1 : IntKind.u8.wrap (x.num / 256) = x.num / 256 := by show (x.num / 256) % 256 = _; omega
        have ew2 : IntKind.u8.wrap x.num = x.num % 256 := rfl
        obtain ⟨hownY, hbY⟩ := HY.out
        have hYW : W.heap.size ≤ Y.heap.size := hbY.size
        obtain ⟨V1, hV1⟩ : ∃ V, (Y.alloc (.cells #[.int .u8 (x.num / 256), .int .u8 (x.num % 256)] 5)).drew = V := ⟨_, rfl⟩
        have own1 : V1.ownsRow W.heap.size 5 1 (.slice A4 m c4) m (bvs (preL next l k)) := by rw [← hV1]; exact hownY.alloc _
        have s1 : Sl V1 V1.heap.size 1 (some ⟨Y.heap.size, 0, none⟩) 2 (bvs [u8 (x.num / 256), u8 x.num]) := by
          rw [two_cells _ g4 g3, ← hV1]
          exact (Sl.new (n := 2) (heap_alloc_new _ _) rfl).drew
        have bYV : Below Y.heap.size Y V1 := by rw [← hV1]; exact ((Below.refl _ Y).alloc (Nat.le_refl _) _).drew
        have hbV := hbY.trans (bYV.mono hYW)
        have zV := hbV.size
        have zYV := bYV.size
        have rk1 := bRange bYV hzY rk
        obtain ⟨A5, c5, w1, hrun1, row1, hg1, hat1⟩ := run_app (P := Try.prog) V1 (ty := 24) (t := 24) Try.underlying24 elemC own1 s1 (c := 2) (oneCell_bvs _) (by simp only [maxLen]; omega) (by omega) zV
        have q0 : V1.cell? ⟨wr.heap.size, 0, none⟩ = some (.int .i64 x.num) := (bYV.cell (p := ⟨wr.heap.size, 0, none⟩) hzY).trans e0
        have q1 : w1.cell? ⟨wr.heap.size, 0, none⟩ = some (.int .i64 x.num) := (World.cell?_of_block (a := ⟨wr.heap.size, 0, none⟩) (hg1.block wr.heap.size (by omega) (fun e => by have := hlt4 _ e.symm; omega))).trans q0
        have rk2 := range_grown hg1 (by omega) (fun e => by have := hlt4 _ e; omega) rk1
        have b1 : Below W.heap.size V1 w1 := (Below.refl _ V1).grown hg1 zV (own_ge own1)
        have z1 := b1.size
        have s2 : Sl w1 w1.heap.size 1 (some ⟨wr.heap.size, 1, none⟩) 32 (bvs x.key) := ⟨by rw [bvs_len, hkl], fun _ => ⟨wr.heap.size, 1, rfl, by omega, rk2⟩⟩
        obtain ⟨A6, c6, w2, hrun2, row2, hg2, -⟩ := run_app (P := Try.prog) w1 (ty := 24) (t := 24) Try.underlying24 elemC row1 s2 (c := 32) (oneCell_bvs _) (by simp only [maxLen]; omega) (by omega) (by omega)
        have q2 : w2.cell? ⟨wr.heap.size, 0, none⟩ = some (.int .i64 x.num) := (World.cell?_of_block (a := ⟨wr.heap.size, 0, none⟩) (hg2.block wr.heap.size (by omega) (fun e => by rcases hat1 with h | h <;> rw [h] at e; (have := hlt4 _ e.symm; omega); (injection e with e; omega)))).trans q1
        have b2 : Below W.heap.size V1 w2 := b1.trans ((Below.refl _ w1).grown hg2 (by omega) (own_ge row1))
        rw [← bvs_append, ← bvs_append, ← hpx.out] at row2
        have HO2 := Lib.hid (And.intro row2 (hbV.trans b2))
        obtain ⟨m2, hm2⟩ : ∃ q, m + 2 = q := ⟨_, rfl⟩
        rw [hm2] at hrun1 hrun2 HO2
        obtain ⟨m3, hm3⟩ : ∃ q, m2 + 32 = q := ⟨_, rfl⟩
        rw [hm3] at hrun2 HO2
        have HM3 : Hid (m3 = 3 + (k + 1) * 34) := Lib.hid (by have := HM.out; omega)
        clear c1 hownY hbY own1 s1 bYV hbV zV zYV rk1 row1 hg1 rk2 b1 z1 s2 row2 hg2 b2 hm2 hm3 hlt4 rk d0
        have HQ := Lib.hid (And.intro q0 (And.intro q1 q2))
        clear q0 q1 q2 hat1
        let S : World → Prop := fun w' => w'.cell? ⟨wr.heap.size, 0, none⟩ = some (.int .i64 x.num)
        refine wp_region_held (S := S) (by kernel_rfl) ?_
        change wpAnyH _ _ _ _ S _ _ _ Y.drew
        have hS0 : S Y.drew := e0
        refine wpAnyH_take (i := 0) (oi := ?oi_1) (v := ?v_1) ?ho_1 ?h1_1 ?h2_1 ?h3_1 ?hq_1 (Or.inl ⟨?hw_1, ?hy_1⟩) ?hs_1 ?rest_1; (case h2_1 => kernel_rfl); (case h3_1 => kernel_rfl); (case ho_1 => (simp only [List.getElem?_toArray, List.getElem?_cons_zero, List.getElem?_cons_succ]; rfl)); (case h1_1 => kernel_rfl); (case hq_1 => exact fun _ _ _ h => h); (case hw_1 => rfl); (case hy_1 => (intro w' hSw; (try simp only [S] at hSw); go_simp; (try with_reducible rfl))); (case hs_1 => assumption); (try simp only [Act.put, List.setIfInBounds_toArray, List.set_cons_zero, List.set_cons_succ])
        refine wpAnyH_take (i := 1) (oi := ?oi_2) (v := ?v_2) ?ho_2 ?h1_2 ?h2_2 ?h3_2 ?hq_2 (Or.inl ⟨?hw_2, ?hy_2⟩) ?hs_2 ?rest_2; (case h2_2 => kernel_rfl); (case h3_2 => kernel_rfl); (case ho_2 => (simp only [List.getElem?_toArray, List.getElem?_cons_zero, List.getElem?_cons_succ]; rfl)); (case h1_2 => kernel_rfl); (case hq_2 => exact fun _ _ _ h => h); (case hw_2 => rfl); (case hy_2 => (intro w' hSw; (try simp only [S] at hSw); go_simp; (try with_reducible rfl))); (case hs_2 => assumption); (try simp only [Act.put, List.setIfInBounds_toArray, List.set_cons_zero, List.set_cons_succ])
        refine wpAnyH_take (i := 2) (oi := ?oi_3) (v := ?v_3) ?ho_3 ?h1_3 ?h2_3 ?h3_3 ?hq_3 (Or.inl ⟨?hw_3, ?hy_3⟩) ?hs_3 ?rest_3; (case h2_3 => kernel_rfl); (case h3_3 => kernel_rfl); (case ho_3 => (simp only [List.getElem?_toArray, List.getElem?_cons_zero, List.getElem?_cons_succ]; rfl)); (case h1_3 => kernel_rfl); (case hq_3 => exact fun _ _ _ h => h); (case hw_3 => rfl); (case hy_3 => (intro w' hSw; (try simp only [S] at hSw); go_simp; (try with_reducible rfl))); (case hs_3 => assumption); (try simp only [Act.put, List.setIfInBounds_toArray, List.set_cons_zero, List.set_cons_succ])
        refine wpAnyH_take (i := 3) (oi := ?oi_4) (v := ?v_4) ?ho_4 ?h1_4 ?h2_4 ?h3_4 ?hq_4 (Or.inl ⟨?hw_4, ?hy_4⟩) ?hs_4 ?rest_4; (case h2_4 => kernel_rfl); (case h3_4 => kernel_rfl); (case ho_4 => (simp only [List.getElem?_toArray, List.getElem?_cons_zero, List.getElem?_cons_succ]; rfl)); (case h1_4 => kernel_rfl); (case hq_4 => exact fun _ _ _ h => h); (case hw_4 => rfl); (case hy_4 => (intro w' hSw; (try simp only [S] at hSw); go_simp; (try with_reducible rfl))); (case hs_4 => assumption); (try simp only [Act.put, List.setIfInBounds_toArray, List.set_cons_zero, List.set_cons_succ])
        refine wpAnyH_take (i := 4) (oi := ?oi_5) (v := ?v_5) ?ho_5 ?h1_5 ?h2_5 ?h3_5 ?hq_5 (Or.inl ⟨?hw_5, ?hy_5⟩) ?hs_5 ?rest_5; (case h2_5 => kernel_rfl); (case h3_5 => kernel_rfl); (case ho_5 => (simp only [List.getElem?_toArray, List.getElem?_cons_zero, List.getElem?_cons_succ]; rfl)); (case h1_5 => kernel_rfl); (case hq_5 => exact fun _ _ _ h => h); (case hw_5 => rfl); (case hy_5 => (intro w' hSw; (try simp only [S] at hSw); go_simp; (try with_reducible rfl))); (case hs_5 => assumption); (try simp only [Act.put, List.setIfInBounds_toArray, List.set_cons_zero, List.set_cons_succ])
        refine wpAnyH_take (i := 5) (oi := ?oi_6) (v := ?v_6) ?ho_6 ?h1_6 ?h2_6 ?h3_6 ?hq_6 (Or.inl ⟨?hw_6, ?hy_6⟩) ?hs_6 ?rest_6; (case h2_6 => kernel_rfl); (case h3_6 => kernel_rfl); (case ho_6 => (simp only [List.getElem?_toArray, List.getElem?_cons_zero, List.getElem?_cons_succ]; rfl)); (case h1_6 => kernel_rfl); (case hq_6 => exact fun _ _ _ h => h); (case hw_6 => rfl); (case hy_6 => (intro w' hSw; (try simp only [S] at hSw); go_simp; (try with_reducible rfl))); (case hs_6 => assumption); (try simp only [Act.put, List.setIfInBounds_toArray, List.set_cons_zero, List.set_cons_succ])
        refine wpAnyH_take (i := 6) (oi := ?oi_7) (v := ?v_7) ?ho_7 ?h1_7 ?h2_7 ?h3_7 ?hq_7 (Or.inl ⟨?hw_7, ?hy_7⟩) ?hs_7 ?rest_7; (case h2_7 => kernel_rfl); (case h3_7 => kernel_rfl); (case ho_7 => (simp only [List.getElem?_toArray, List.getElem?_cons_zero, List.getElem?_cons_succ]; rfl)); (case h1_7 => kernel_rfl); (case hq_7 => exact fun _ _ _ h => h); (case hw_7 => rfl); (case hy_7 => (intro w' hSw; (try simp only [S] at hSw); go_simp; (try with_reducible rfl))); (case hs_7 => assumption); (try simp only [Act.put, List.setIfInBounds_toArray, List.set_cons_zero, List.set_cons_succ])
        refine wpAnyH_take (i := 7) (oi := ?oi_8) (v := ?v_8) ?ho_8 ?h1_8 ?h2_8 ?h3_8 ?hq_8 (Or.inl ⟨?hw_8, ?hy_8⟩) ?hs_8 ?rest_8; (case h2_8 => kernel_rfl); (case h3_8 => kernel_rfl); (case ho_8 => (simp only [List.getElem?_toArray, List.getElem?_cons_zero, List.getElem?_cons_succ]; rfl)); (case h1_8 => kernel_rfl); (case hq_8 => exact fun _ _ _ h => h); (case hw_8 => rfl); (case hy_8 => (intro w' hSw; (try simp only [S] at hSw); go_simp; (try with_reducible rfl))); (case hs_8 => assumption); (try simp only [Act.put, List.setIfInBounds_toArray, List.set_cons_zero, List.set_cons_succ])
        refine wpAnyH_take (i := 10) (oi := ?oi_9) (v := ?v_9) ?ho_9 ?h1_9 ?h2_9 ?h3_9 ?hq_9 (Or.inl ⟨?hw_9, ?hy_9⟩) ?hs_9 ?rest_9; (case h2_9 => kernel_rfl); (case h3_9 => kernel_rfl); (case ho_9 => (simp only [List.getElem?_toArray, List.getElem?_cons_zero, List.getElem?_cons_succ]; rfl)); (case h1_9 => kernel_rfl); (case hq_9 => exact fun _ _ _ h => h); (case hw_9 => rfl); (case hy_9 => (intro w' hSw; (try simp only [S] at hSw); go_simp; (try with_reducible rfl))); (case hs_9 => assumption); (try simp only [Act.put, List.setIfInBounds_toArray, List.set_cons_zero, List.set_cons_succ])
        refine wpAnyH_take (i := 11) (oi := ?oi_10) (v := ?v_10) ?ho_10 ?h1_10 ?h2_10 ?h3_10 ?hq_10 (Or.inl ⟨?hw_10, ?hy_10⟩) ?hs_10 ?rest_10; (case h2_10 => kernel_rfl); (case h3_10 => kernel_rfl); (case ho_10 => (simp only [List.getElem?_toArray, List.getElem?_cons_zero, List.getElem?_cons_succ]; rfl)); (case h1_10 => kernel_rfl); (case hq_10 => exact fun _ _ _ h => h); (case hw_10 => rfl); (case hy_10 => (intro w' hSw; (try simp only [S] at hSw); go_simp; (try with_reducible rfl))); (case hs_10 => assumption); (try simp only [Act.put, List.setIfInBounds_toArray, List.set_cons_zero, List.set_cons_succ])
        refine wpAnyH_ready (rs := [8]) (by kernel_rfl) (by simp) (AllReadyH.cons (o := ?oo8_23) ?hoo8_23 (fun K hK => ?steponly23) AllReadyH.nil); (case hoo8_23 => (simp only [List.getElem?_toArray, List.getElem?_cons_zero, List.getElem?_cons_succ]; rfl))
        go_simp
        (try rw [hV1])
        refine hK.out _ _ HQ.out.1 (fun _ => ?_)
        clear hK K hV1
        (try simp only [Act.put, List.setIfInBounds_toArray, List.set_cons_zero, List.set_cons_succ])
        refine wpAnyH_ready (rs := [9]) (by kernel_rfl) (by simp) (AllReadyH.cons (o := ?oo9_24) ?hoo9_24 (fun K hK => ?steponly24) AllReadyH.nil); (case hoo9_24 => (simp only [List.getElem?_toArray, List.getElem?_cons_zero, List.getElem?_cons_succ]; rfl))
        go_simp
        refine hK.out _ _ HQ.out.2.1 (fun _ => ?_)
        clear hK K
        (try simp only [Act.put, List.setIfInBounds_toArray, List.set_cons_zero, List.set_cons_succ])
        refine wpAnyH_ready (rs := [12]) (by kernel_rfl) (by simp) (AllReadyH.cons (o := ?oo12_25) ?hoo12_25 (fun K hK => ?steponly25) AllReadyH.nil); (case hoo12_25 => (simp only [List.getElem?_toArray, List.getElem?_cons_zero, List.getElem?_cons_succ]; rfl))
        go_simp
        refine hK.out _ _ HQ.out.2.2 (fun _ => ?_)
        clear hK K
        (try simp only [Act.put, List.setIfInBounds_toArray, List.set_cons_zero, List.set_cons_succ])
        refine wpAnyH_take (i := 13) (oi := ?oi_11) (v := ?v_11) ?ho_11 ?h1_11 ?h2_11 ?h3_11 ?hq_11 (Or.inl ⟨?hw_11, ?hy_11⟩) ?hs_11 ?rest_11; (case h2_11 => kernel_rfl); (case h3_11 => kernel_rfl); (case ho_11 => (simp only [List.getElem?_toArray, List.getElem?_cons_zero, List.getElem?_cons_succ]; rfl)); (case h1_11 => kernel_rfl); (case hq_11 => exact fun _ _ _ h => h); (case hw_11 => rfl); (case hy_11 => (intro w' hSw; (try simp only [S] at hSw); go_simp; (try with_reducible rfl))); (case hs_11 => assumption); (try simp only [Act.put, List.setIfInBounds_toArray, List.set_cons_zero, List.set_cons_succ])
        refine wpAnyH_done (by kernel_rfl) ?_ _
        go_wp2_with fail
        go_roundw
        case rel => exact ⟨k + 1, by omega, by go_num, by rw [show ahd 0 l (k + 1) = x.num from by unfold ahd; rw [if_neg (by omega), Nat.add_sub_cancel, hnx]], by rw [← HM3.out]; exact HO2.out.1, HO2.out.2, fun j hj => by
          rcases Nat.lt_or_ge j k with h | h
          · exact HO.out j h
          · obtain rfl : j = k := by omega
            rw [hnx]; exact ⟨g1, g2⟩⟩
        case measure => simp [intOf]; omega
      · have hf : rise 0 next l = false := by
          cases hr : rise 0 next l
          · rfl
          · have := HR.out.1 hr k (by rw [HN.out]; exact hlt)
            rw [hnx] at this
            exact absurd this hg
        have HF : Hid (EncP w (logB next l) (erF (rise 0 next l)) = EncP w [] 11) := Lib.hid (by unfold logB; rw [hf]; rfl)
        have hBY : Below w.heap.size w Y := HBW.out.trans (HY.out.2.mono HBW.out.size)
        clear hf
        have hg' : x.num ≤ ahd 0 l k ∨ (ahd 0 l k < x.num ∧ next ≤ x.num) := by omega
        clear hg
        rcases hg' with g1 | ⟨g1, g2⟩
        · go_wp2_with fail
          go_ret2
          rw [HF.out]
          exact EncP.no hBY
        · go_wp2_with fail
          go_ret2
          rw [HF.out]
          exact EncP.no hBY
    · obtain rfl : k = n := by omega
      have hr1 : rise 0 next l = true := HR.out.2 (fun j hj => hris j (by rw [HN.out] at hj; exact hj))
      have hall : preL next l k = bytesL next l := by have := preL_all next l; rw [HN.out] at this; exact this
      have hbl : (bytesL next l).length = 3 + k * 34 := by rw [bytesL_len HL.out.ok, HN.out]
      have HF : Hid (EncP w (logB next l) (erF (rise 0 next l)) = EncP w (bytesL next l) 0) := Lib.hid (by unfold logB; rw [hr1]; rfl)
      rw [hall] at hown
      have hBx := HBW.out.trans (hbr.mono HBW.out.size)
      obtain ⟨A4, c4, rfl, -⟩ := own_form hown
      have HO := Lib.hid (And.intro hown (And.intro hBx hbl))
      have HM := Lib.hid hr1
      clear hown hbr hris hall hbl hBx hr1
      have hlt' : ¬ (k : Int) < (k : Int) := by omega
      go_wp2_with fail
      go_ret2
      rw [HF.out]
      exact EncP.own HO.out.2.2.symm HO.out.1 HO.out.2.1

set_option maxHeartbeats 16000000 in
set_option maxRecDepth 100000 in
theorem rlog_yes {next : Int} {A : Option Addr} {n c B : Nat} {l : List LE} (h1 : 1 ≤ next) (h2 : next ≤ 65535) (h8 : n ≤ 8) (w : World) (hl : LgAt w B A n c l) (hB : B ≤ w.heap.size) : Calls Try.prog 25 #[lgv next A n c] w (EncP w (logB next l) (erF (rise 0 next l))) := by
  have hln := hl.len
  have hH := head3 next n h1 h2 h8
  have i8 : ¬ (8 : Int) < (n : Int) := by omega
  have hRi := rise_iff next l 0
  have hz := leZ
  have hone0 := one_le le0
  obtain ⟨z, hzz⟩ : ∃ z, le0.cells = z := ⟨_, rfl⟩
  have hzl : z.length = 33 := by rw [← hzz]; exact le0_ok.len
  rw [hzz] at hz
  clear hzz
  obtain ⟨hd, hhd⟩ : ∃ b, headL next n = b := ⟨_, rfl⟩
  have hP0 : Hid (preL next l 0 = hd) := Lib.hid (by rw [preL_zero, hln, hhd])
  have hHl : hd.length = 3 := by rw [← hhd]; rfl
  rw [hhd] at hH
  clear hhd
  have HL := Lib.hid hl
  have HN := Lib.hid hln
  have HR := Lib.hid hRi
  have HH := Lib.hid hH
  clear hl hH hRi hln
  unfold lgv
  go_enter Try.func25, Try.ntmps25
  go_upto_region 1 with (fail)
  obtain ⟨W, hW⟩ : ∃ W, w.alloc (.cells #[.int .i64 next, .slice A n c] 46) = W := ⟨_, rfl⟩
  try rw [hW]
  have a1 : W.heap[w.heap.size]? = some (.cells #[.int .i64 next, .slice A n c] 46) := by rw [← hW]; exact heap_alloc_new _ _
  have hBW : Below w.heap.size w W := by rw [← hW]; exact (Below.refl _ _).alloc (Nat.le_refl _) _
  have c0 := blk_cell a1 (k := 0) rfl
  have c1 := blk_cell a1 (k := 1) rfl
  have hzW := (Array.getElem?_eq_some_iff.1 a1).1
  clear hW
  go_upto_region 5 with (fail)
  obtain ⟨Wa, hWa⟩ : ∃ X, W.alloc (.cells (bvs hd).toArray 5) = X := ⟨_, rfl⟩
  rw [← HH.out, hWa]
  have hbA : Below W.heap.size W Wa := by rw [← hWa]; exact (Below.refl _ _).alloc (Nat.le_refl _) _
  have bH : Wa.heap[W.heap.size]? = some (.cells (bvs hd).toArray 5) := by rw [← hWa]; exact heap_alloc_new _ _
  have hBA := hBW.trans (hbA.mono hBW.size)
  have own0 : Wa.ownsRow W.heap.size 5 1 (.slice (some ⟨W.heap.size, 0, none⟩) 3 3) (3 + 0 * 34) (bvs (preL next l 0)) := by
    rw [hP0.out]; exact own_lit (Nat.le_refl _) bH (by simp [bvs_len, hHl]) (by simp [maxLen])
  have aW := a1
  replace a1 := bBlk hbA hzW a1
  replace c0 := blk_cell a1 (k := 0) rfl
  replace c1 := blk_cell a1 (k := 1) rfl
  have HBW := Lib.hid hBW
  clear hWa bH hBW
  have HA := Lib.hid aW
  clear a1 aW
  go_wp2_with fail
  go_loopw [4, 5, 6] (fun vb va vi wr => ∃ k : Nat, k ≤ n ∧ vi = .int .i64 k ∧ va = .int .i64 (ahd 0 l k) ∧ wr.ownsRow W.heap.size 5 1 vb (3 + k * 34) (bvs (preL next l k)) ∧ Below W.heap.size W wr ∧ (∀ j : Nat, j < k → ahd 0 l j < numAt l j ∧ numAt l j < next)) (fun _ _ vi _ => n - (intOf vi).toNat)
  case atStart => exact ⟨0, by omega, rfl, rfl, own0, hbA, fun j hj => absurd hj (by omega)⟩
  case round =>
    clear own0 hbA hBA c0 c1
    obtain ⟨k, hk, rfl, rfl, hown, hbr, hris⟩ := hrel
    have hwW : w.heap.size ≤ W.heap.size := Nat.le_of_lt hzW
    have c0 : wr.cell? ⟨w.heap.size, 0, none⟩ = some (.int .i64 next) := blk_cell (bBlk hbr hzW HA.out) (k := 0) rfl
    have c1 : wr.cell? ⟨w.heap.size, 1, none⟩ = some (.slice A n c) := blk_cell (bBlk hbr hzW HA.out) (k := 1) rfl
    by_cases hlt : k < n
    · obtain ⟨x, hx⟩ : ∃ x, l[k]? = some x := ⟨_, List.getElem?_eq_getElem (by rw [HN.out]; exact hlt)⟩
      have hxo := HL.out.ok x (List.mem_of_getElem? hx)
      obtain ⟨b, o, rfl, hbB, hxr⟩ := HL.out.entry hx
      have hnx := numAt_of hx
      have hpx := Lib.hid (preL_succ (next := next) hx)
      have hbw : b < W.heap.size := by omega
      have hBr := HBW.out.trans (hbr.mono HBW.out.size)
      replace hxr := bRange hBr (by omega) hxr
      have hzwr : w.heap.size < wr.heap.size := by have := hbr.size; omega
      have hxi := le_info hxo
      have hxli := le_leninfo hxo
      have hxs : z.toArray.size = x.cells.toArray.size := by rw [List.size_toArray, List.size_toArray, hzl, hxo.len]
      have hone := one_le x
      have hi1 : (k : Int) < (n : Int) := by omega
      obtain ⟨A4, c4, rfl, -⟩ := own_form hown
      obtain ⟨Y, hY, y7, bY⟩ := newRow wr z.toArray x.cells.toArray 66
      obtain ⟨e0, rk⟩ := key_range hxo y7
      have hzY := (Array.getElem?_eq_some_iff.1 y7).1
      have d0 := (bY.cell (p := ⟨w.heap.size, 0, none⟩) hzwr).trans c0
      have hbY := hbr.trans (bY.mono hbr.size)
      have hownY := own_below hown bY
      have hah := ahd_nonneg k hris
      have hlt4 : ∀ q, (Value.slice A4 (3 + k * 34) c4).ownBlock = some q → q < wr.heap.size := fun q hq => (hown.lt q hq).2
      have hkl := hxo.key
      obtain ⟨m, hm⟩ : ∃ m, 3 + k * 34 = m := ⟨_, rfl⟩
      rw [hm] at hownY hlt4
      rw [hm]
      have HY := Lib.hid (And.intro hownY hbY)
      have HO := Lib.hid hris
      have HM := Lib.hid hm
      have hmb : m ≤ 300 := by omega
      clear hown hbr hris hownY hbY y7 hBr hm
      go_upto_region 9 with (first
        | (refine wpList_load_mid rfl 66 (.tmp 44) rfl b (o + k * 33) rfl x.cells _ hxr Try.underlying66 rfl hxli ?_)
        | (refine wpList_new rfl hz rfl ?_)
        | (refine wpList_store_row rfl 66 (.tmp 7) (.tmp 45) rfl _ x.cells.toArray rfl rfl _ z.toArray (heap_alloc_new _ _) hxi hxs (all_oneCell_toArray hone) ?_; (try rw [hY]))
        | fail)
      clear hY hxr
      by_cases hg : ahd 0 l k < x.num ∧ x.num < next
      · obtain ⟨g1, g2⟩ := hg
        have g3 : x.num ≤ 65535 := by omega
        have g4 : 0 ≤ x.num := by omega
        go_upto_region 12 with (fail)
        have ew1 : IntKind.u8.wrap (x.num / 256) = x.num / 256 := by show (x.num / 256) % 256 = _; omega
        have ew2 : IntKind.u8.wrap x.num = x.num % 256 := rfl
        obtain ⟨hownY, hbY⟩ := HY.out
        have hYW : W.heap.size ≤ Y.heap.size := hbY.size
        obtain ⟨V1, hV1⟩ : ∃ V, (Y.alloc (.cells #[.int .u8 (x.num / 256), .int .u8 (x.num % 256)] 5)).drew = V := ⟨_, rfl⟩
        have own1 : V1.ownsRow W.heap.size 5 1 (.slice A4 m c4) m (bvs (preL next l k)) := by rw [← hV1]; exact hownY.alloc _
        have s1 : Sl V1 V1.heap.size 1 (some ⟨Y.heap.size, 0, none⟩) 2 (bvs [u8 (x.num / 256), u8 x.num]) := by
          rw [two_cells _ g4 g3, ← hV1]
          exact (Sl.new (n := 2) (heap_alloc_new _ _) rfl).drew
        have bYV : Below Y.heap.size Y V1 := by rw [← hV1]; exact ((Below.refl _ Y).alloc (Nat.le_refl _) _).drew
        have hbV := hbY.trans (bYV.mono hYW)
        have zV := hbV.size
        have zYV := bYV.size
        have rk1 := bRange bYV hzY rk
        obtain ⟨A5, c5, w1, hrun1, row1, hg1, hat1⟩ := run_app (P := Try.prog) V1 (ty := 24) (t := 24) Try.underlying24 elemC own1 s1 (c := 2) (oneCell_bvs _) (by simp only [maxLen]; omega) (by omega) zV
        have q0 : V1.cell? ⟨wr.heap.size, 0, none⟩ = some (.int .i64 x.num) := (bYV.cell (p := ⟨wr.heap.size, 0, none⟩) hzY).trans e0
        have q1 : w1.cell? ⟨wr.heap.size, 0, none⟩ = some (.int .i64 x.num) := (World.cell?_of_block (a := ⟨wr.heap.size, 0, none⟩) (hg1.block wr.heap.size (by omega) (fun e => by have := hlt4 _ e.symm; omega))).trans q0
        have rk2 := range_grown hg1 (by omega) (fun e => by have := hlt4 _ e; omega) rk1
        have b1 : Below W.heap.size V1 w1 := (Below.refl _ V1).grown hg1 zV (own_ge own1)
        have z1 := b1.size
        have s2 : Sl w1 w1.heap.size 1 (some ⟨wr.heap.size, 1, none⟩) 32 (bvs x.key) := ⟨by rw [bvs_len, hkl], fun _ => ⟨wr.heap.size, 1, rfl, by omega, rk2⟩⟩
        obtain ⟨A6, c6, w2, hrun2, row2, hg2, -⟩ := run_app (P := Try.prog) w1 (ty := 24) (t := 24) Try.underlying24 elemC row1 s2 (c := 32) (oneCell_bvs _) (by simp only [maxLen]; omega) (by omega) (by omega)
        have q2 : w2.cell? ⟨wr.heap.size, 0, none⟩ = some (.int .i64 x.num) := (World.cell?_of_block (a := ⟨wr.heap.size, 0, none⟩) (hg2.block wr.heap.size (by omega) (fun e => by rcases hat1 with h | h <;> rw [h] at e; (have := hlt4 _ e.symm; omega); (injection e with e; omega)))).trans q1
        have b2 : Below W.heap.size V1 w2 := b1.trans ((Below.refl _ w1).grown hg2 (by omega) (own_ge row1))
        rw [← bvs_append, ← bvs_append, ← hpx.out] at row2
        have HO2 := Lib.hid (And.intro row2 (hbV.trans b2))
        obtain ⟨m2, hm2⟩ : ∃ q, m + 2 = q := ⟨_, rfl⟩
        rw [hm2] at hrun1 hrun2 HO2
        obtain ⟨m3, hm3⟩ : ∃ q, m2 + 32 = q := ⟨_, rfl⟩
        rw [hm3] at hrun2 HO2
        have HM3 : Hid (m3 = 3 + (k + 1) * 34) := Lib.hid (by have := HM.out; omega)
        clear c1 hownY hbY own1 s1 bYV hbV zV zYV rk1 row1 hg1 rk2 b1 z1 s2 row2 hg2 b2 hm2 hm3 hlt4 rk d0
        have HQ := Lib.hid (And.intro q0 (And.intro q1 q2))
        clear q0 q1 q2 hat1
        let S : World → Prop := fun w' => w'.cell? ⟨wr.heap.size, 0, none⟩ = some (.int .i64 x.num)
        refine wp_region_held (S := S) (by kernel_rfl) ?_
        change wpAnyH _ _ _ _ S _ _ _ Y.drew
        have hS0 : S Y.drew := e0
        refine wpAnyH_take (i := 0) (oi := ?oi_12) (v := ?v_12) ?ho_12 ?h1_12 ?h2_12 ?h3_12 ?hq_12 (Or.inl ⟨?hw_12, ?hy_12⟩) ?hs_12 ?rest_12; (case h2_12 => kernel_rfl); (case h3_12 => kernel_rfl); (case ho_12 => (simp only [List.getElem?_toArray, List.getElem?_cons_zero, List.getElem?_cons_succ]; rfl)); (case h1_12 => kernel_rfl); (case hq_12 => exact fun _ _ _ h => h); (case hw_12 => rfl); (case hy_12 => (intro w' hSw; (try simp only [S] at hSw); go_simp; (try with_reducible rfl))); (case hs_12 => assumption); (try simp only [Act.put, List.setIfInBounds_toArray, List.set_cons_zero, List.set_cons_succ])
        refine wpAnyH_take (i := 1) (oi := ?oi_13) (v := ?v_13) ?ho_13 ?h1_13 ?h2_13 ?h3_13 ?hq_13 (Or.inl ⟨?hw_13, ?hy_13⟩) ?hs_13 ?rest_13; (case h2_13 => kernel_rfl); (case h3_13 => kernel_rfl); (case ho_13 => (simp only [List.getElem?_toArray, List.getElem?_cons_zero, List.getElem?_cons_succ]; rfl)); (case h1_13 => kernel_rfl); (case hq_13 => exact fun _ _ _ h => h); (case hw_13 => rfl); (case hy_13 => (intro w' hSw; (try simp only [S] at hSw); go_simp; (try with_reducible rfl))); (case hs_13 => assumption); (try simp only [Act.put, List.setIfInBounds_toArray, List.set_cons_zero, List.set_cons_succ])
        refine wpAnyH_take (i := 2) (oi := ?oi_14) (v := ?v_14) ?ho_14 ?h1_14 ?h2_14 ?h3_14 ?hq_14 (Or.inl ⟨?hw_14, ?hy_14⟩) ?hs_14 ?rest_14; (case h2_14 => kernel_rfl); (case h3_14 => kernel_rfl); (case ho_14 => (simp only [List.getElem?_toArray, List.getElem?_cons_zero, List.getElem?_cons_succ]; rfl)); (case h1_14 => kernel_rfl); (case hq_14 => exact fun _ _ _ h => h); (case hw_14 => rfl); (case hy_14 => (intro w' hSw; (try simp only [S] at hSw); go_simp; (try with_reducible rfl))); (case hs_14 => assumption); (try simp only [Act.put, List.setIfInBounds_toArray, List.set_cons_zero, List.set_cons_succ])
        refine wpAnyH_take (i := 3) (oi := ?oi_15) (v := ?v_15) ?ho_15 ?h1_15 ?h2_15 ?h3_15 ?hq_15 (Or.inl ⟨?hw_15, ?hy_15⟩) ?hs_15 ?rest_15; (case h2_15 => kernel_rfl); (case h3_15 => kernel_rfl); (case ho_15 => (simp only [List.getElem?_toArray, List.getElem?_cons_zero, List.getElem?_cons_succ]; rfl)); (case h1_15 => kernel_rfl); (case hq_15 => exact fun _ _ _ h => h); (case hw_15 => rfl); (case hy_15 => (intro w' hSw; (try simp only [S] at hSw); go_simp; (try with_reducible rfl))); (case hs_15 => assumption); (try simp only [Act.put, List.setIfInBounds_toArray, List.set_cons_zero, List.set_cons_succ])
        refine wpAnyH_take (i := 4) (oi := ?oi_16) (v := ?v_16) ?ho_16 ?h1_16 ?h2_16 ?h3_16 ?hq_16 (Or.inl ⟨?hw_16, ?hy_16⟩) ?hs_16 ?rest_16; (case h2_16 => kernel_rfl); (case h3_16 => kernel_rfl); (case ho_16 => (simp only [List.getElem?_toArray, List.getElem?_cons_zero, List.getElem?_cons_succ]; rfl)); (case h1_16 => kernel_rfl); (case hq_16 => exact fun _ _ _ h => h); (case hw_16 => rfl); (case hy_16 => (intro w' hSw; (try simp only [S] at hSw); go_simp; (try with_reducible rfl))); (case hs_16 => assumption); (try simp only [Act.put, List.setIfInBounds_toArray, List.set_cons_zero, List.set_cons_succ])
        refine wpAnyH_take (i := 5) (oi := ?oi_17) (v := ?v_17) ?ho_17 ?h1_17 ?h2_17 ?h3_17 ?hq_17 (Or.inl ⟨?hw_17, ?hy_17⟩) ?hs_17 ?rest_17; (case h2_17 => kernel_rfl); (case h3_17 => kernel_rfl); (case ho_17 => (simp only [List.getElem?_toArray, List.getElem?_cons_zero, List.getElem?_cons_succ]; rfl)); (case h1_17 => kernel_rfl); (case hq_17 => exact fun _ _ _ h => h); (case hw_17 => rfl); (case hy_17 => (intro w' hSw; (try simp only [S] at hSw); go_simp; (try with_reducible rfl))); (case hs_17 => assumption); (try simp only [Act.put, List.setIfInBounds_toArray, List.set_cons_zero, List.set_cons_succ])
        refine wpAnyH_take (i := 6) (oi := ?oi_18) (v := ?v_18) ?ho_18 ?h1_18 ?h2_18 ?h3_18 ?hq_18 (Or.inl ⟨?hw_18, ?hy_18⟩) ?hs_18 ?rest_18; (case h2_18 => kernel_rfl); (case h3_18 => kernel_rfl); (case ho_18 => (simp only [List.getElem?_toArray, List.getElem?_cons_zero, List.getElem?_cons_succ]; rfl)); (case h1_18 => kernel_rfl); (case hq_18 => exact fun _ _ _ h => h); (case hw_18 => rfl); (case hy_18 => (intro w' hSw; (try simp only [S] at hSw); go_simp; (try with_reducible rfl))); (case hs_18 => assumption); (try simp only [Act.put, List.setIfInBounds_toArray, List.set_cons_zero, List.set_cons_succ])
        refine wpAnyH_take (i := 7) (oi := ?oi_19) (v := ?v_19) ?ho_19 ?h1_19 ?h2_19 ?h3_19 ?hq_19 (Or.inl ⟨?hw_19, ?hy_19⟩) ?hs_19 ?rest_19; (case h2_19 => kernel_rfl); (case h3_19 => kernel_rfl); (case ho_19 => (simp only [List.getElem?_toArray, List.getElem?_cons_zero, List.getElem?_cons_succ]; rfl)); (case h1_19 => kernel_rfl); (case hq_19 => exact fun _ _ _ h => h); (case hw_19 => rfl); (case hy_19 => (intro w' hSw; (try simp only [S] at hSw); go_simp; (try with_reducible rfl))); (case hs_19 => assumption); (try simp only [Act.put, List.setIfInBounds_toArray, List.set_cons_zero, List.set_cons_succ])
        refine wpAnyH_take (i := 10) (oi := ?oi_20) (v := ?v_20) ?ho_20 ?h1_20 ?h2_20 ?h3_20 ?hq_20 (Or.inl ⟨?hw_20, ?hy_20⟩) ?hs_20 ?rest_20; (case h2_20 => kernel_rfl); (case h3_20 => kernel_rfl); (case ho_20 => (simp only [List.getElem?_toArray, List.getElem?_cons_zero, List.getElem?_cons_succ]; rfl)); (case h1_20 => kernel_rfl); (case hq_20 => exact fun _ _ _ h => h); (case hw_20 => rfl); (case hy_20 => (intro w' hSw; (try simp only [S] at hSw); go_simp; (try with_reducible rfl))); (case hs_20 => assumption); (try simp only [Act.put, List.setIfInBounds_toArray, List.set_cons_zero, List.set_cons_succ])
        refine wpAnyH_take (i := 11) (oi := ?oi_21) (v := ?v_21) ?ho_21 ?h1_21 ?h2_21 ?h3_21 ?hq_21 (Or.inl ⟨?hw_21, ?hy_21⟩) ?hs_21 ?rest_21; (case h2_21 => kernel_rfl); (case h3_21 => kernel_rfl); (case ho_21 => (simp only [List.getElem?_toArray, List.getElem?_cons_zero, List.getElem?_cons_succ]; rfl)); (case h1_21 => kernel_rfl); (case hq_21 => exact fun _ _ _ h => h); (case hw_21 => rfl); (case hy_21 => (intro w' hSw; (try simp only [S] at hSw); go_simp; (try with_reducible rfl))); (case hs_21 => assumption); (try simp only [Act.put, List.setIfInBounds_toArray, List.set_cons_zero, List.set_cons_succ])
        refine wpAnyH_ready (rs := [8]) (by kernel_rfl) (by simp) (AllReadyH.cons (o := ?oo8_26) ?hoo8_26 (fun K hK => ?steponly26) AllReadyH.nil); (case hoo8_26 => (simp only [List.getElem?_toArray, List.getElem?_cons_zero, List.getElem?_cons_succ]; rfl))
        go_simp
        (try rw [hV1])
        refine hK.out _ _ HQ.out.1 (fun _ => ?_)
        clear hK K hV1
        (try simp only [Act.put, List.setIfInBounds_toArray, List.set_cons_zero, List.set_cons_succ])
        refine wpAnyH_ready (rs := [9]) (by kernel_rfl) (by simp) (AllReadyH.cons (o := ?oo9_27) ?hoo9_27 (fun K hK => ?steponly27) AllReadyH.nil); (case hoo9_27 => (simp only [List.getElem?_toArray, List.getElem?_cons_zero, List.getElem?_cons_succ]; rfl))
        go_simp
        refine hK.out _ _ HQ.out.2.1 (fun _ => ?_)
        clear hK K
        (try simp only [Act.put, List.setIfInBounds_toArray, List.set_cons_zero, List.set_cons_succ])
        refine wpAnyH_ready (rs := [12]) (by kernel_rfl) (by simp) (AllReadyH.cons (o := ?oo12_28) ?hoo12_28 (fun K hK => ?steponly28) AllReadyH.nil); (case hoo12_28 => (simp only [List.getElem?_toArray, List.getElem?_cons_zero, List.getElem?_cons_succ]; rfl))
        go_simp
        refine hK.out _ _ HQ.out.2.2 (fun _ => ?_)
        clear hK K
        (try simp only [Act.put, List.setIfInBounds_toArray, List.set_cons_zero, List.set_cons_succ])
        refine wpAnyH_take (i := 13) (oi := ?oi_22) (v := ?v_22) ?ho_22 ?h1_22 ?h2_22 ?h3_22 ?hq_22 (Or.inl ⟨?hw_22, ?hy_22⟩) ?hs_22 ?rest_22; (case h2_22 => kernel_rfl); (case h3_22 => kernel_rfl); (case ho_22 => (simp only [List.getElem?_toArray, List.getElem?_cons_zero, List.getElem?_cons_succ]; rfl)); (case h1_22 => kernel_rfl); (case hq_22 => exact fun _ _ _ h => h); (case hw_22 => rfl); (case hy_22 => (intro w' hSw; (try simp only [S] at hSw); go_simp; (try with_reducible rfl))); (case hs_22 => assumption); (try simp only [Act.put, List.setIfInBounds_toArray, List.set_cons_zero, List.set_cons_succ])
        refine wpAnyH_done (by kernel_rfl) ?_ _
        go_wp2_with fail
        go_roundw
        case rel => exact ⟨k + 1, by omega, by go_num, by rw [show ahd 0 l (k + 1) = x.num from by unfold ahd; rw [if_neg (by omega), Nat.add_sub_cancel, hnx]], by rw [← HM3.out]; exact HO2.out.1, HO2.out.2, fun j hj => by
          rcases Nat.lt_or_ge j k with h | h
          · exact HO.out j h
          · obtain rfl : j = k := by omega
            rw [hnx]; exact ⟨g1, g2⟩⟩
        case measure => simp [intOf]; omega
      · have hf : rise 0 next l = false := by
          cases hr : rise 0 next l
          · rfl
          · have := HR.out.1 hr k (by rw [HN.out]; exact hlt)
            rw [hnx] at this
            exact absurd this hg
        have HF : Hid (EncP w (logB next l) (erF (rise 0 next l)) = EncP w [] 11) := Lib.hid (by unfold logB; rw [hf]; rfl)
        have hBY : Below w.heap.size w Y := HBW.out.trans (HY.out.2.mono HBW.out.size)
        clear hf
        have hg' : x.num ≤ ahd 0 l k ∨ (ahd 0 l k < x.num ∧ next ≤ x.num) := by omega
        clear hg
        rcases hg' with g1 | ⟨g1, g2⟩
        · go_wp2_with fail
          go_ret2
          rw [HF.out]
          exact EncP.no hBY
        · go_wp2_with fail
          go_ret2
          rw [HF.out]
          exact EncP.no hBY
    · obtain rfl : k = n := by omega
      have hr1 : rise 0 next l = true := HR.out.2 (fun j hj => hris j (by rw [HN.out] at hj; exact hj))
      have hall : preL next l k = bytesL next l := by have := preL_all next l; rw [HN.out] at this; exact this
      have hbl : (bytesL next l).length = 3 + k * 34 := by rw [bytesL_len HL.out.ok, HN.out]
      have HF : Hid (EncP w (logB next l) (erF (rise 0 next l)) = EncP w (bytesL next l) 0) := Lib.hid (by unfold logB; rw [hr1]; rfl)
      rw [hall] at hown
      have hBx := HBW.out.trans (hbr.mono HBW.out.size)
      obtain ⟨A4, c4, rfl, -⟩ := own_form hown
      have HO := Lib.hid (And.intro hown (And.intro hBx hbl))
      have HM := Lib.hid hr1
      clear hown hbr hris hall hbl hBx hr1
      have hlt' : ¬ (k : Int) < (k : Int) := by omega
      go_wp2_with fail
      go_ret2
      rw [HF.out]
      exact EncP.own HO.out.2.2.symm HO.out.1 HO.out.2.1

theorem encL_bad {next : Int} {l : List LE} (h : ¬ (1 ≤ next ∧ next ≤ 65535 ∧ l.length ≤ 8)) : encL next l = [] ∧ goodL next l = false := by
  have hg : goodL next l = false := by unfold goodL; rw [decide_eq_false h]; rfl
  exact ⟨by unfold encL; rw [hg]; rfl, hg⟩
theorem encL_ok {next : Int} {l : List LE} (h : 1 ≤ next ∧ next ≤ 65535 ∧ l.length ≤ 8) : encL next l = logB next l ∧ goodL next l = rise 0 next l := by
  have hg : goodL next l = rise 0 next l := by unfold goodL; rw [decide_eq_true h]; rfl
  exact ⟨by unfold encL logB; rw [hg], hg⟩
theorem log_any {next : Int} {A : Option Addr} {n c B : Nat} {l : List LE} (w : World) (hl : LgAt w B A n c l) (hB : B ≤ w.heap.size) : Calls Try.prog 24 #[lgv next A n c] w (EncP w (encL next l) (erF (goodL next l))) := by
  by_cases h : 1 ≤ next ∧ next ≤ 65535 ∧ l.length ≤ 8
  · rw [(encL_ok h).1, (encL_ok h).2]
    exact log_yes h.1 h.2.1 (by rw [← hl.len]; exact h.2.2) w hl hB
  · rw [(encL_bad h).1, (encL_bad h).2]
    exact log_no (by rw [hl.len] at h; omega) w
theorem rlog_any {next : Int} {A : Option Addr} {n c B : Nat} {l : List LE} (w : World) (hl : LgAt w B A n c l) (hB : B ≤ w.heap.size) : Calls Try.prog 25 #[lgv next A n c] w (EncP w (encL next l) (erF (goodL next l))) := by
  by_cases h : 1 ≤ next ∧ next ≤ 65535 ∧ l.length ≤ 8
  · rw [(encL_ok h).1, (encL_ok h).2]
    exact rlog_yes h.1 h.2.1 (by rw [← hl.len]; exact h.2.2) w hl hB
  · rw [(encL_bad h).1, (encL_bad h).2]
    exact rlog_no (by rw [hl.len] at h; omega) w
end Go.Proofs.Ytjfkaebikmnnaaa
