/- The reference's tables of ways: in plain Lean and in memory. -/
import Derived.Test.YtnojikbecohhfaaBkRLine
import Derived.Test.YtnojikbecohhfaaBkRLess
import Derived.Test.YtnojikbecohhfaaBkSrch
import Derived.Test.YtnojikbecohhfaaAp
namespace Go.Proofs.Ytnojikbecohhfaa
set_option linter.unusedSimpArgs false
set_option linter.unusedVariables false
open Go.RowKit Go.Sort

/-! ### plain -/
def rW (l : List It) (wd tl : Int) (all : Bool) (k : Nat) : Option WY := (fnd l wd tl all k)[k]?.join
theorem rW_zero (l : List It) (wd tl : Int) (all : Bool) : rW l wd tl all 0 = some wy0 := rfl
/-- the best one by breaks below i -/
def curW (l : List It) (wd tl : Int) (all : Bool) (k i : Nat) : Option WY := bestTo l wd tl all (fnd l wd tl all (k - 1)) k i
theorem cur_start (l : List It) (wd tl : Int) (all : Bool) (k : Nat) : curW l wd tl all k 0 = none := rfl
theorem cur_end (l : List It) (wd tl : Int) (all : Bool) {k : Nat} (hk : 1 ≤ k) : rW l wd tl all k = curW l wd tl all k k := by
  obtain ⟨k, rfl⟩ : ∃ k', k = k' + 1 := ⟨k - 1, by omega⟩
  unfold rW curW
  rw [fnd, List.getElem?_append_right (by rw [fnd_len]; omega), fnd_len, Nat.sub_self, Nat.add_sub_cancel]
  rfl
theorem cur_next {l : List It} {wd tl : Int} {all : Bool} {i k : Nat} (hik : i < k) :
    curW l wd tl all k (i + 1) = offo (curW l wd tl all k i) (if bx l (plcAt l i) (plcAt l k) then (rW l wd tl all i).bind fun w => if (lineD l wd tl (plcAt l i) (plcAt l k)).may || all then some (withW l wd tl w (plcAt l i) (plcAt l k)) else none else none) := by
  unfold curW
  rw [bestTo]
  unfold byWay
  rw [fnd_at (l := l) (wd := wd) (tl := tl) (all := all) (show i ≤ k - 1 by omega)]
  rfl
/-- nothing is offered -/
theorem cur_skip {l : List It} {wd tl : Int} {all : Bool} {i k : Nat} (hik : i < k) (h : rW l wd tl all i = none ∨ bx l (plcAt l i) (plcAt l k) = false ∨ (bx l (plcAt l i) (plcAt l k) = true ∧ (lineD l wd tl (plcAt l i) (plcAt l k)).may = false ∧ all = false)) :
    curW l wd tl all k (i + 1) = curW l wd tl all k i := by
  rw [cur_next hik]
  rcases h with h | h | ⟨h, h2, h3⟩
  · rw [h]
    split <;> rfl
  · rw [h, if_neg (by simp)]; rfl
  · rw [h, if_pos rfl, h2, h3]
    cases rW l wd tl false i <;> rfl
theorem cur_step {l : List It} {wd tl : Int} {all : Bool} {i k : Nat} {x : WY} (hik : i < k) (hx : rW l wd tl all i = some x) (h : bx l (plcAt l i) (plcAt l k) = true) (h2 : (lineD l wd tl (plcAt l i) (plcAt l k)).may = true ∨ all = true) :
    curW l wd tl all k (i + 1) = offr (curW l wd tl all k i) (withW l wd tl x (plcAt l i) (plcAt l k)) := by
  rw [cur_next hik, h, if_pos rfl, hx]
  have : ((lineD l wd tl (plcAt l i) (plcAt l k)).may || all) = true := by rcases h2 with h2 | h2 <;> rw [h2] <;> simp
  simp only [Option.bind_some, this, if_true]
  rfl
theorem rW_ok {l : List It} {wd tl : Int} {all : Bool} {k : Nat} (hk : k < (plc l).length) : ∀ y, rW l wd tl all k = some y → okWY l.length k y := fun y hy => fnd_ok k k y hk hy
theorem cur_ok {l : List It} {wd tl : Int} {all : Bool} {k i : Nat} (hk : k < (plc l).length) (hik : i ≤ k) : ∀ y, curW l wd tl all k i = some y → okWY l.length k y := by
  unfold curW
  exact bestTo_ok hk (fun i x hx => fnd_ok (k - 1) i x (by omega) hx) i hik
/-- the tables while row k is sought: its best one so far is c -/
def gst (R : Nat → Option WY) (k : Nat) (c : Option WY) (j : Nat) : Option WY := if j < k then R j else if j = k then c else none
theorem gst_lt {R : Nat → Option WY} {k j : Nat} {c : Option WY} (h : j < k) : gst R k c j = R j := by unfold gst; rw [if_pos h]
theorem gst_at {R : Nat → Option WY} {k : Nat} {c : Option WY} : gst R k c k = c := by unfold gst; rw [if_neg (by omega), if_pos rfl]
theorem gst_ne {R : Nat → Option WY} {k j : Nat} {c c' : Option WY} (h : j ≠ k) : gst R k c j = gst R k c' j := by
  unfold gst
  by_cases hj : j < k
  · simp [hj]
  · simp [hj, h]
theorem gst_up {R : Nat → Option WY} {k : Nat} (j : Nat) : gst R k (R k) j = gst R (k + 1) none j := by
  unfold gst
  rcases Nat.lt_trichotomy j k with h | h | h
  · rw [if_pos h, if_pos (by omega)]
  · subst h; rw [if_neg (by omega), if_pos rfl, if_pos (by omega)]
  · rw [if_neg (by omega), if_neg (by omega), if_neg (by omega)]; split <;> rfl
/-- does the new way replace the best one so far? -/
def newB (c : Option WY) (y : WY) : Bool := match c with | none => true | some x => bett y x
theorem offr_new (c : Option WY) (y : WY) : offr c y = if newB c y then some y else c := by
  cases c with
  | none => rfl
  | some x => unfold offr newB; rfl
/-! ### in memory -/
def Cel3 (w : World) (F : Nat) (cs : Array Value) (o : Nat) (y : WY) : Prop := ∃ A m c, cs[o]? = some (.slice A m c) ∧ cs[o + 1]? = some (.int .i64 y.total) ∧ cs[o + 2]? = some (.int .i64 y.over) ∧ IvN w F A m c y.ends
theorem IvN.but2 {w w' : World} {G F : Nat} {A : Option Addr} {n c : Nat} {l : List Int} (h : IvN w G A n c l) (hF : F < G) (hb : But w.heap.size (fun q => q = F ∨ q = G) w w') : IvN w' G A n c l := by
  refine ⟨⟨h.iv.wide, h.iv.len, ⟨h.iv.sl.len, fun h0 => ?_⟩, h.iv.cap⟩, h.far⟩
  obtain ⟨b, o, e, h1, h2⟩ := h.iv.sl.at_ h0
  have := h.far b o none e
  exact ⟨b, o, e, by have := hb.size; omega, fun j v hj => (World.cell?_of_block (a := ⟨b, o + j, none⟩) (hb.block b h1 (by omega))).trans (h2 j v hj)⟩
theorem Cel3.but {w w' : World} {F G o : Nat} {cs : Array Value} {y : WY} (h : Cel3 w G cs o y) (hF : F < G) (hb : But w.heap.size (fun q => q = F ∨ q = G) w w') : Cel3 w' G cs o y := by
  obtain ⟨A, m, c, h0, h1, h2, h4⟩ := h; exact ⟨A, m, c, h0, h1, h2, h4.but2 hF hb⟩
theorem Cel3.same {w : World} {F o : Nat} {cs cs' : Array Value} {y : WY} (h : Cel3 w F cs o y) (he : ∀ i, i < 3 → cs'[o + i]? = cs[o + i]?) : Cel3 w F cs' o y := by
  obtain ⟨A, m, c, h0, h1, h2, h4⟩ := h
  have e0 := he 0 (by omega)
  rw [Nat.add_zero] at e0
  exact ⟨A, m, c, e0.trans h0, (he 1 (by omega)).trans h1, (he 2 (by omega)).trans h2, h4⟩
structure RRep (w : World) (F G N : Nat) (g : Nat → Option WY) (cs ds : Array Value) : Prop where
  fg : F < G
  blk : w.heap[F]? = some (.cells cs 37)
  blk2 : w.heap[G]? = some (.cells ds 4)
  size : cs.size = N * 3
  size2 : ds.size = N
  cel : ∀ j : Nat, j < N → Cel3 w G cs (j * 3) ((g j).getD wy0)
  cel2 : ∀ j : Nat, j < N → ds[j]? = some (.bool (g j).isSome)
theorem but_of2 {n : Nat} {X : Nat → Prop} {w w' : World} (h : Below n w w') : But n X w w' := ⟨h.os, h.tape, h.output, h.size, fun k hk _ => h.block k hk⟩
theorem RRep.nxt {w w' : World} {F G N : Nat} {g : Nat → Option WY} {cs ds : Array Value} (h : RRep w F G N g cs ds) (hb : Below w.heap.size w w') : RRep w' F G N g cs ds :=
  ⟨h.fg, bBlk hb (Array.getElem?_eq_some_iff.1 h.blk).1 h.blk, bBlk hb (Array.getElem?_eq_some_iff.1 h.blk2).1 h.blk2, h.size, h.size2, fun j hj => (h.cel j hj).but h.fg (but_of2 hb), h.cel2⟩
theorem RRep.list {w : World} {F G N : Nat} {g g' : Nat → Option WY} {cs ds : Array Value} (h : RRep w F G N g cs ds) (he : ∀ j : Nat, j < N → g' j = g j) : RRep w F G N g' cs ds :=
  ⟨h.fg, h.blk, h.blk2, h.size, h.size2, fun j hj => by rw [he j hj]; exact h.cel j hj, fun j hj => by rw [he j hj]; exact h.cel2 j hj⟩
theorem set3_at (cs : Array Value) (o : Nat) (a b c : Value) (h : o + 3 ≤ cs.size) : (setMany cs o [a, b, c])[o]? = some a ∧ (setMany cs o [a, b, c])[o + 1]? = some b ∧ (setMany cs o [a, b, c])[o + 2]? = some c := by
  simp only [setMany]
  refine ⟨?_, ?_, ?_⟩
  · rw [Array.getElem?_setIfInBounds_ne (by omega), Array.getElem?_setIfInBounds_ne (by omega), Array.getElem?_setIfInBounds_self_of_lt (by omega)]
  · rw [Array.getElem?_setIfInBounds_ne (by omega), Array.getElem?_setIfInBounds_self_of_lt (by simp only [Array.size_setIfInBounds]; omega)]
  · show _ = some c
    rw [show o + 2 = o + 1 + 1 from rfl, Array.getElem?_setIfInBounds_self_of_lt (by simp only [Array.size_setIfInBounds]; omega)]
theorem set3_far (cs : Array Value) (o i : Nat) (a b c : Value) (h : i < o ∨ o + 3 ≤ i) : (setMany cs o [a, b, c])[i]? = cs[i]? := by
  simp only [setMany]
  rw [Array.getElem?_setIfInBounds_ne (by omega), Array.getElem?_setIfInBounds_ne (by omega), Array.getElem?_setIfInBounds_ne (by omega)]
/-- one place of both tables written -/
theorem RRep.put {w w' : World} {F G N k : Nat} {g g' : Nat → Option WY} {cs ds : Array Value} {A : Option Addr} {m c : Nat} {y : WY} (h : RRep w F G N g cs ds) (hk : k < N) (hb : But w.heap.size (fun q => q = F ∨ q = G) w w')
    (hF : w'.heap[F]? = some (.cells (setMany cs (k * 3) [.slice A m c, .int .i64 y.total, .int .i64 y.over]) 37)) (hG : w'.heap[G]? = some (.cells (ds.setIfInBounds k (.bool true)) 4)) (hy : IvN w' G A m c y.ends)
    (h1 : g' k = some y) (h2 : ∀ j : Nat, j < N → j ≠ k → g' j = g j) : RRep w' F G N g' (setMany cs (k * 3) [.slice A m c, .int .i64 y.total, .int .i64 y.over]) (ds.setIfInBounds k (.bool true)) := by
  have hs := h.size
  have hs2 := h.size2
  refine ⟨h.fg, hF, hG, by rw [setMany_size, hs], by rw [Array.size_setIfInBounds, hs2], fun j hj => ?_, fun j hj => ?_⟩
  · by_cases hjk : j = k
    · subst hjk
      rw [h1]
      obtain ⟨e0, e1, e2⟩ := set3_at cs (j * 3) (.slice A m c) (.int .i64 y.total) (.int .i64 y.over) (by omega)
      exact ⟨A, m, c, e0, e1, e2, hy⟩
    · rw [h2 j hj hjk]
      exact ((h.cel j hj).but h.fg hb).same (fun i hi => set3_far _ _ _ _ _ _ (by omega))
  · by_cases hjk : j = k
    · subst hjk
      rw [h1, Array.getElem?_setIfInBounds_self_of_lt (by omega)]
      rfl
    · rw [h2 j hj hjk, Array.getElem?_setIfInBounds_ne (by omega)]
      exact h.cel2 j hj
theorem make_tab3 (n : Nat) (h1 : 1 ≤ n) (hn : n ≤ 1000) (w : World) : (Instr.makeSlice 85 (.int .i64 (n : Int)) (.int .i64 (n : Int))).run Try.prog w = .ok (.slice (some ⟨w.heap.size, 0, none⟩) n n) (w.alloc (.cells (madeCells wyz (n * 3)) 37)) := by
  have h : (Try.prog.info? 37).map (fun i => (i.zero, i.size, i.bytes)) = some (some (.agg wyz), 3, 40) := by kernel_rfl
  cases hq : Try.prog.info? 37 with
  | none => rw [hq] at h; cases h
  | some i =>
    rw [hq] at h
    have hz : i.zero = some (.agg wyz) := by have := h; simp only [Option.map_some, Option.some.injEq, Prod.mk.injEq] at this; exact this.1
    have hs : i.size = 3 := by have := h; simp only [Option.map_some, Option.some.injEq, Prod.mk.injEq] at this; exact this.2.1
    have hb : i.bytes = 40 := by have := h; simp only [Option.map_some, Option.some.injEq, Prod.mk.injEq] at this; exact this.2.2
    have := run_make (P := Try.prog) w 85 37 i _ (by kernel_rfl) hq hz .i64 .i64 (n : Int) (n : Int) (by omega) (by omega) (by rw [hb]; omega) (by omega)
    rw [this, hs]
    simp only [Value.cells, Int.toNat_natCast]
theorem made_at3 {n j : Nat} (h : j < n) : (madeCells wyz n)[j]? = some (wyz[j % 3]!) := by
  unfold madeCells
  rw [Array.getElem?_map, Array.getElem?_range, if_pos h]
  rfl
theorem made_size3 (n : Nat) : (madeCells wyz n).size = n := by unfold madeCells; simp
theorem make_bools (n : Nat) (h1 : 1 ≤ n) (hn : n ≤ 1000) (w : World) : (Instr.makeSlice 86 (.int .i64 (n : Int)) (.int .i64 (n : Int))).run Try.prog w = .ok (.slice (some ⟨w.heap.size, 0, none⟩) n n) (w.alloc (.cells (madeCells #[.bool false] n) 4)) := by
  have h : (Try.prog.info? 4).map (fun i => (i.zero, i.size, i.bytes)) = some (some (.bool false), 1, 1) := by kernel_rfl
  cases hq : Try.prog.info? 4 with
  | none => rw [hq] at h; cases h
  | some i =>
    rw [hq] at h
    have hz : i.zero = some (.bool false) := by have := h; simp only [Option.map_some, Option.some.injEq, Prod.mk.injEq] at this; exact this.1
    have hs : i.size = 1 := by have := h; simp only [Option.map_some, Option.some.injEq, Prod.mk.injEq] at this; exact this.2.1
    have hb : i.bytes = 1 := by have := h; simp only [Option.map_some, Option.some.injEq, Prod.mk.injEq] at this; exact this.2.2
    have := run_make (P := Try.prog) w 86 4 i _ (by kernel_rfl) hq hz .i64 .i64 (n : Int) (n : Int) (by omega) (by omega) (by rw [hb]; omega) (by omega)
    rw [this, hs]
    simp only [Value.cells, Int.toNat_natCast, Nat.mul_one]
theorem madeb_at {n j : Nat} (h : j < n) : (madeCells #[.bool false] n)[j]? = some (.bool false) := by
  unfold madeCells
  rw [Array.getElem?_map, Array.getElem?_range, if_pos h]
  simp [Nat.mod_one]
theorem madeb_size (n : Nat) : (madeCells #[.bool false] n).size = n := by unfold madeCells; simp
theorem tab_two {w : World} {F G N : Nat} {cs ds : Array Value} (hFG : F < G) (h1 : 1 ≤ N) (hF : w.heap[F]? = some (.cells cs 37)) (hG : w.heap[G]? = some (.cells ds 4)) (hc : cs = madeCells wyz (N * 3)) (hd : ds = (madeCells #[.bool false] N).setIfInBounds 0 (.bool true))
    {R : Nat → Option WY} (hR : R 0 = some wy0) : RRep w F G N (gst R 1 none) cs ds := by
  have hg : ∀ j, gst R 1 none j = if j = 0 then some wy0 else none := fun j => by
    unfold gst
    by_cases h : j = 0
    · subst h; rw [if_pos (by omega), hR, if_pos rfl]
    · rw [if_neg (by omega), if_neg h]; split <;> rfl
  refine ⟨hFG, hF, hG, by rw [hc]; exact made_size3 _, by rw [hd, Array.size_setIfInBounds]; exact madeb_size _, fun j hj => ?_, fun j hj => ?_⟩
  · have hat : ∀ i, i < 3 → cs[j * 3 + i]? = some (wyz[i]!) := fun i hi => by
      rw [hc, made_at3 (by omega), show (j * 3 + i) % 3 = i by omega]
    have hw : (gst R 1 none j).getD wy0 = wy0 := by rw [hg]; split <;> rfl
    rw [hw]
    exact ⟨none, 0, 0, hat 0 (by omega), hat 1 (by omega), hat 2 (by omega), ⟨⟨by simp [wy0], rfl, Sl.nil, Nat.le_refl _⟩, fun b o i e => by cases e⟩⟩
  · rw [hg, hd]
    by_cases h : j = 0
    · subst h
      rw [Array.getElem?_setIfInBounds_self_of_lt (by rw [madeb_size]; omega)]
      rfl
    · rw [Array.getElem?_setIfInBounds_ne (by omega), madeb_at hj, if_neg h]
      rfl
/-! ### a way of one's own -/
theorem ints0 (w : World) : (Instr.buildSlice 25 0 #[]).run Try.prog w = .ok (.slice (some ⟨w.heap.size, 0, none⟩) 0 0) (w.alloc (.cells #[] 3)) := by
  go_simp
theorem wy_inf (A : Option Addr) (n c : Nat) (t o : Int) : (Try.prog.info? 37).map (·.size) = some (#[.slice A n c, .int .i64 t, .int .i64 o] : Array Value).size := wy_size
theorem wy_zs {zw : Array Value} (h : zw.size = 3) (A : Option Addr) (n c : Nat) (t o : Int) : zw.size = (#[.slice A n c, .int .i64 t, .int .i64 o] : Array Value).size := by rw [h]; rfl
theorem wy_on (A : Option Addr) (n c : Nat) (t o : Int) : (#[.slice A n c, .int .i64 t, .int .i64 o] : Array Value).all (·.oneCell') = true := by simp [Value.oneCell']
/-- a way of one's own in memory, behind Z -/
def ApOut (Z : World) (m : Nat) (E : List Int) (t ov : Int) (s : Value) (wx : World) : Prop :=
  ∃ g A c, s = .pointer (some ⟨g, 0, none⟩) ∧ wx.heap[g]? = some (.cells #[.slice A m c, .int .i64 t, .int .i64 ov] 37) ∧ IvAt wx wx.heap.size A m c E ∧ (∀ b o i, A = some ⟨b, o, i⟩ → Z.heap.size ≤ b ∧ b ≠ g) ∧ Z.heap.size ≤ g ∧ Below Z.heap.size Z wx
theorem ap_out {Z wx : World} {m : Nat} {E : List Int} {E1 : List Value} {t ov : Int} {s : Value} {g : Nat} {A : Option Addr} {c : Nat} (hs : s = .pointer (some ⟨g, 0, none⟩)) (hb : Below Z.heap.size Z wx) (hown : wx.ownsRow Z.heap.size 3 1 (.slice A m c) m E1)
    (hblk : wx.heap[g]? = some (.cells #[.slice A m c, .int .i64 t, .int .i64 ov] 37)) (hne : (Value.slice A m c).ownBlock ≠ some g) (hge : Z.heap.size ≤ g) (he : E1 = ivs E) (hw : (∀ z ∈ E, -9223372036854775808 ≤ z ∧ z ≤ 9223372036854775807) ∧ E.length = m) : ApOut Z m E t ov s wx := by
  subst he
  have hg := own_ge hown
  obtain ⟨_, _, e, hcap, -⟩ := own_form hown
  cases e
  exact ⟨g, A, c, hs, hblk, ⟨hw.1, hw.2, Sl.of_own hown, hcap⟩, fun b o i e => ⟨hg b (by rw [e]; rfl), fun h => hne (by rw [e, h]; rfl)⟩, hge, hb⟩
theorem Ap.call {Z V U : World} {e : TypeId} {sz n : Nat} {v : Value} {xs : List Value} {G : List (Nat × Obj)} (h : Ap Z V e sz v n xs G) (hb : Below V.heap.size V U) : Ap Z U e sz v n xs G :=
  ⟨h.below.trans (hb.mono h.ge), own_below h.own hb, fun g o hm => by
    obtain ⟨h1, h2, h3⟩ := h.blk g o hm
    exact ⟨bBlk hb (Array.getElem?_eq_some_iff.1 h1).1 h1, h2, h3⟩⟩
theorem but_row {n g : Nat} {w w' : World} (h : But n (· = g) w w') (cs : Array Value) : But n (· = g) w (w'.setRow g cs) :=
  ⟨by rw [setRow_os]; exact h.os, by rw [setRow_tape]; exact h.tape, by rw [setRow_output]; exact h.output, by rw [setRow_size]; exact h.size, fun k hk hx => (setRow_other w' g k cs hx).trans (h.block k hk hx)⟩
theorem IvAt.but6 {w w' : World} {g : Nat} {A : Option Addr} {n c : Nat} {l : List Int} (h : IvAt w w.heap.size A n c l) (hf : ∀ b o i, A = some ⟨b, o, i⟩ → b ≠ g) (hb : But w.heap.size (· = g) w w') : IvAt w' w'.heap.size A n c l := by
  refine ⟨h.wide, h.len, ⟨h.sl.len, fun h0 => ?_⟩, h.cap⟩
  obtain ⟨b, o, e, h1, h2⟩ := h.sl.at_ h0
  exact ⟨b, o, e, by have := hb.size; omega, fun j v hj => (World.cell?_of_block (a := ⟨b, o + j, none⟩) (hb.block b h1 (hf b o none e))).trans (h2 j v hj)⟩
end Go.Proofs.Ytnojikbecohhfaa
