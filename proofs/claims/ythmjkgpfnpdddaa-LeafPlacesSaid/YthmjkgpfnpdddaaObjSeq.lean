/- The iterator over bytes as blocks. -/
import Derived.Test.YthmjkgpfnpdddaaObjPlain
import Derived.Test.YthmjkgpfnpdddaaChunk
import Derived.Test.YthmjkgpfnpdddaaHeld
import Derived.Test.YthmjkgpfnpdddaaMany
namespace Go.Proofs.Ythmjkgpfnpdddaa
set_option linter.unusedSimpArgs false
set_option linter.unusedVariables false
open Go.RowKit Go.Shelf Go.Sort
attribute [local go_sem] Oper.semAt_some

def bkv (b : Blk) : Value := .agg (bvs b).toArray
theorem blkZ : ZeroIs Try.prog 40 (bvs zblk).toArray := by unfold ZeroIs; kernel_rfl
theorem bk_size : (Try.prog.info? 40).map (·.size) = some 128 := by kernel_rfl
theorem bk_info {b : Blk} (hb : b.length = 128) : (Try.prog.info? 40).map (·.size) = some (bvs b).toArray.size := by rw [List.size_toArray, bvs_len, hb]; exact bk_size
theorem bk_linfo {b : Blk} (hb : b.length = 128) : (Try.prog.info? 40).map (·.size) = some (bvs b).length := by rw [bvs_len, hb]; exact bk_size
theorem blk_sizes {a b : Blk} (ha : a.length = 128) (hb : b.length = 128) : (bvs a).toArray.size = (bvs b).toArray.size := by rw [List.size_toArray, List.size_toArray, bvs_len, bvs_len, ha, hb]
theorem built_blk0 : Try.prog.built 40 [] = some (bvs zblk).toArray := built_none blkZ (n := 128) (e := 5) (by kernel_rfl) (by kernel_rfl)
theorem pad_cells {l : List UInt8} (h : l.length ≤ 128) : setMany (bvs zblk).toArray 0 (bvs l) = (bvs (pad l)).toArray := by
  rw [setMany_list _ _ _ (by rw [bvs_len, bvs_len, zblk_len]; omega)]
  congr 1
  unfold pad
  rw [bvs_append, bvs_len, List.take_zero, List.nil_append, Nat.zero_add]
  congr 1
  simp only [bvs, zblk, List.map_replicate, List.drop_replicate]

theorem cut_any (A : Option Addr) (n c : Nat) (w : World) :
    Calls Try.prog 37 #[.slice A n c] w fun e w' =>
      e = .returned (.func (.func 52) #[] #[.pointer (some ⟨w.heap.size, 0, none⟩)]) ∧ w.alloc (.cells #[.slice A n c] 22) = w' := by
  go_enter Try.func37, Try.ntmps37
  go_wp2
  go_ret
  exact ⟨rfl, rfl⟩
theorem grown_drewN (w : World) (k : Nat) (row : Option Nat) : w.grownBy (w.drewN k) row := ⟨rfl, rfl, rfl, Nat.le_refl _, fun _ _ _ => rfl⟩
theorem ownFrom_up {β : Type} {B C : Nat} {I : β → World → Prop} (h : OwnFrom B I) (hC : B ≤ C) : OwnFrom C I := fun s X Y row hs hg hr => h s X Y row hs hg (fun r e => ⟨Nat.le_trans hC (hr r e).1, (hr r e).2⟩)

set_option maxRecDepth 100000 in
set_option maxHeartbeats 8000000 in
theorem cut_all {BX b o cap n sb : Nat} {l : List UInt8} {w : World} (hl : l.length = n) (hc : n ≤ 100000) (hcap : n ≤ cap) (hm : cap ≤ maxLen) (hbx : BX < w.heap.size) (hb : b < w.heap.size) (hsb : sb < w.heap.size) (hne : BX ≠ sb) (hnb : b ≠ sb)
    (hBX : w.cell? ⟨BX, 0, none⟩ = some (.slice (some ⟨b, o, none⟩) n cap)) (hr : w.rangeAt b o (bvs l)) :
    SeqAll Fence.wide 11 Try.prog 52 #[.pointer (some ⟨BX, 0, none⟩)] (fun x : Fin (cutN n) => #[bkv (blkAt l x.1)]) (w.heap.size + 5) (fun k => k = sb) (fun ys => ys = List.finRange (cutN n)) (cutN n) w := by
  intro l0 J W hl0 hbW hsz hJ hY h0
  subst hl0
  have hBXW := (hbW.cell (p := ⟨BX, 0, none⟩) hbx).trans hBX
  have hrW := bRange hbW hb hr
  have HY := Lib.hid hY
  have HJ := Lib.hid (And.intro hJ h0)
  clear hY hJ h0
  refine callsIn_of_wp_marks Try.func52 rfl trivial ?_ rfl
  simp only [Try.ntmps52, List.size_toArray, List.length_cons, List.length_nil, Nat.reduceAdd, Nat.reduceSub, Array.replicate_succ, Array.replicate_zero, List.push_toArray, List.append_toArray, List.nil_append, List.cons_append]
  have HSZ := Lib.hid hsz
  have hz3 : w.heap.size + 2 ≤ W.heap.size := by omega
  have hbxW : BX < W.heap.size := by omega
  clear hsz
  gi_wp2_with fail
  refine ⟨trivial, ?_⟩
  refine ((callsIn_wide (n := 10)).2 (chunk_any _ _ _ _ (by omega) _)).mono ?_
  rintro e w' ⟨rfl, rfl⟩
  gi_wp2
  obtain ⟨W1, hW1⟩ : ∃ W1, ((W.alloc (.cells #[.func (.yield (w.heap.size + 1)) #[] #[]] 93)).alloc (.cells #[.slice (some ⟨b, o, none⟩) n cap] 22)).alloc (.cells #[.int .i64 128] 3) = W1 := ⟨_, rfl⟩
  try rw [hW1]
  have hsz1 : W1.heap.size = w.heap.size + 5 := by rw [← hW1]; have := HSZ.out; simp; omega
  have hszW : W.heap.size ≤ w.heap.size + 2 := by have := HSZ.out; omega
  have hs1a : W1.heap.size ≤ w.heap.size + 5 := by omega
  have hs1b : w.heap.size + 5 ≤ W1.heap.size := by omega
  clear hsz1
  have bY : Boxed W1 W.heap.size 93 (.func (.yield (w.heap.size + 1)) #[] #[]) := by rw [← hW1]; exact ((Boxed.new W _ _).alloc _).alloc _
  have b1 : Boxed W1 (W.heap.size + 1) 22 (.slice (some ⟨b, o, none⟩) n cap) := by
    rw [← hW1]; have := (Boxed.new (W.alloc (.cells #[.func (.yield (w.heap.size + 1)) #[] #[]] 93)) 22 (.slice (some ⟨b, o, none⟩) n cap)).alloc (.cells #[.int .i64 128] 3); simpa using this
  have b2 : Boxed W1 (W.heap.size + 1 + 1) 3 (.int .i64 128) := by
    rw [← hW1]; have := Boxed.new ((W.alloc (.cells #[.func (.yield (w.heap.size + 1)) #[] #[]] 93)).alloc (.cells #[.slice (some ⟨b, o, none⟩) n cap] 22)) 3 (.int .i64 128); simpa using this
  have hBW1 : Below W.heap.size W W1 := by rw [← hW1]; exact (((Below.refl _ _).alloc (Nat.le_refl _) _).alloc (by simp) _).alloc (by simp; omega) _
  have rW1 := bRange hBW1 (by omega) hrW
  have hI0 : J [] W1 := by
    obtain ⟨hJ, h0⟩ := HJ.out
    rw [← hW1]
    exact hJ.alloc _ (hJ.alloc _ (hJ.alloc _ h0))
  have hOI := ownFrom_up HJ.out.1 (show W.heap.size ≤ W1.heap.size by omega)
  have HI := Lib.hid (And.intro hI0 (And.intro hBW1 rW1))
  clear hW1 hBXW hrW rW1 hI0 hBW1
  refine wpIn_rangeFunc_ownG rfl (by omega) (gf := 62) (lb := #[.pointer (some ⟨W.heap.size + 1, 0, none⟩), .pointer (some ⟨W.heap.size + 1 + 1, 0, none⟩)]) rfl trivial (enters_of Try.func62 (by kernel_rfl) rfl)
    (chunk_stops (W.heap.size + 1) (W.heap.size + 1 + 1) b o n cap 128 (cutN n) (by omega) (by omega) (fun k => by unfold cutN; omega) hcap (by omega) W1 (by omega) (by omega) b1.cell b2.cell) (fun h k => h.trans k) (fun W l o o' hl h a c => Two.obj (w := W1) (by omega) (by omega) W l o o' hl h a c) (Below.refl _ _) (fun _ => rfl)
    (fun (pre : List (Fin (cutN n))) V => J pre V ∧ But (w.heap.size + 5) (fun k => k = sb ∨ k = w.heap.size + 1) W1 V)
    (fun _ _ _ => False)
    (hOI.and (But.own (a := W1) (n := w.heap.size + 5) (X := fun k => k = sb ∨ k = w.heap.size + 1) (by omega) (by omega)))
    (fun _ _ _ _ _ hs _ _ => hs)
    ⟨HI.out.1, But.refl _ _ _⟩
    ?a1 ?assign ?body ?done ?stop
  case assign =>
    intro l0 x V K hK
    gi_wp2
    exact hK
  case stop => exact fun D c pre V _ _ h _ => h.elim
  case done =>
    rintro D ys V hD rfl ⟨hJV, hB⟩ hK
    have HJV := Lib.hid hJV
    have HK := Lib.hid hK
    clear hJV hK hB
    gi_wp2
    refine ⟨by simp, .inl ⟨_, _, rfl, run_takeDeferred HK.out, ?_⟩⟩
    exact ⟨_, results_none rfl _ _ _, ⟨_, rfl⟩, _, rfl, HJ.out.1.putObj _ HJV.out (by omega) HK.out rfl⟩
  case body =>
    rintro l1 pre x V ⟨hJV, hB⟩ hlt
    have hcl : cl n 128 x.1 = ((l.drop (128 * x.1)).take 128).length := by rw [List.length_take, List.length_drop, hl]; unfold cl; omega
    have hx := x.2
    have hxn : 128 * x.1 < n := by unfold cutN at hx; omega
    have hrV := hB.range (k := b) (by omega) (by omega) HI.out.2.2
    have bYV := hB.boxed (k := W.heap.size) (by omega) (by omega) bY
    have hzV : w.heap.size + 5 ≤ V.heap.size := by have := hB.size; omega
    have r1 := range_cut hrV (x.1 * 128) 128
    rw [show ((bvs l).drop (x.1 * 128)).take 128 = bvs ((l.drop (128 * x.1)).take 128) from by rw [Nat.mul_comm]; simp [bvs, List.map_take, List.map_drop]] at r1
    have hbl := blkAt_len l x.1
    have hbd : blkAt l x.1 = pad ((l.drop (128 * x.1)).take 128) := rfl
    rw [hcl]
    obtain ⟨ck, hck⟩ : ∃ q, (l.drop (128 * x.1)).take 128 = q := ⟨_, rfl⟩
    have hcl8 : ck.length ≤ 128 := by rw [← hck, List.length_take]; omega
    have hcl0 : 0 < ck.length := by rw [← hck, List.length_take, List.length_drop, hl]; omega
    rw [hck] at r1 hbd ⊢
    clear hck hcl
    obtain ⟨V1, hV1⟩ : ∃ q, V.alloc (.cells (bvs zblk).toArray 40) = q := ⟨_, rfl⟩
    have v1 : V1.heap[V.heap.size]? = some (.cells (bvs zblk).toArray 40) := by rw [← hV1]; exact heap_alloc_new _ _
    have hbV1 : Below V.heap.size V V1 := by rw [← hV1]; exact (Below.refl _ _).alloc (Nat.le_refl _) _
    have r1' := bRange hbV1 (by omega) r1
    have hcopy := fun ty => run_copy_cells (P := Try.prog) V1 22 22 ty 5 V.heap.size 0 128 128 ⟨b, o + x.1 * 128, none⟩ ck.length ck.length (bvs ck) Try.underlying22 (by kernel_rfl) (by rw [bvs_len]; exact (Nat.min_eq_left hcl8).symm) (fun j v hj => by rw [addr_add]; exact r1' j v hj)
      (fun j hj => ((there_blk v1 (o := 0) (n := 128) (by rw [List.size_toArray, bvs_len, zblk_len]; omega)) j (by rw [bvs_len] at hj; omega)).1) (fun j hj => blk_frozen v1 _) (oneCell_bvs _)
    obtain ⟨V2, hV2⟩ : ∃ X, V1.setCells V.heap.size 0 (bvs ck) = X := ⟨_, rfl⟩
    rw [hV2] at hcopy
    have v2 : V2.heap[V.heap.size]? = some (.cells (bvs (blkAt l x.1)).toArray 40) := by
      rw [← hV2]
      have := blk_sets (bvs ck) 0 v1
      rw [pad_cells hcl8, ← hbd] at this
      exact this
    have hbV2 : Below V.heap.size V V2 := by
      rw [← hV2]
      exact hbV1.trans ((but_sets (X := fun k => k = V.heap.size) _ _ _ (But.refl _ _ _) rfl).below (Nat.le_refl _) (fun k e => by omega))
    obtain ⟨bb, hbb⟩ : ∃ q, blkAt l x.1 = q := ⟨_, rfl⟩
    rw [hbb] at v2 hbl hbd
    have hgV : V.grownBy V2 none := ⟨hbV2.os, hbV2.tape, hbV2.output, hbV2.size, fun k hk _ => hbV2.block k hk⟩
    have hY2 : YieldAt (Fence.wide.inRound l1) 8 Try.prog (w.heap.size + 1) #[bkv bb] V2 fun e V' => e = .returned (.bool true) ∧ J (pre ++ [x]) V' ∧ But (w.heap.size + 5) (fun k => k = sb ∨ k = w.heap.size + 1) V2 V' ∧ KeepsFrom W.heap.size V2 V' := by
      have := yieldAt_round (l0 := l1) (m' := 8) rfl (HY.out pre x V2 (HJ.out.1 _ _ _ none hJV hgV (fun r e => by cases e)) hlt (by have := hbV2.size; omega))
      rw [hbb] at this
      exact this
    have c2 := (hbV2.cell (p := ⟨W.heap.size, 0, none⟩) (show W.heap.size < V.heap.size by omega)).trans bYV.cell
    have hB2 : But (w.heap.size + 5) (fun k => k = sb ∨ k = w.heap.size + 1) V V2 := but_of (hbV2.mono hzV)
    have hK2 : KeepsFrom W1.heap.size V V2 := ⟨hbV2.size, fun k o _ ho _ => bBlk hbV2 (Array.getElem?_eq_some_iff.1 ho).1 ho⟩
    have hinf := bk_info hbl
    have HB := Lib.hid (And.intro hB (And.intro hB2 hK2))
    obtain ⟨fn, tmps, assign, body, hy, hR⟩ := hY2
    have hrb := range_blk v2
    have hxl := bk_linfo hbl
    have hzv2 := (Array.getElem?_eq_some_iff.1 v2).1
    have bYv := bYV.cell
    rw [bvs_len] at hcopy
    have HV1 := Lib.hid hV1
    clear hB hJV hlt hgV hB2 hK2 hbV1 hbV2 hV1 hV2 r1 r1' v1 hrV hxn hcl8 hcl0 bYV hbd
    gi_wp2_with (first
      | (refine wpListIn_val rfl (fun c e => by cases e) rfl (exec_new blkZ rfl _) ?_; rw [HV1.out])
      | (refine wpListIn_val (o := ⟨some 12, _, _, _, _, _⟩) (v := bkv bb) (w' := V2) rfl (fun c e => by cases e) rfl (by refine exec_load_row (x := .tmp 4) ?_ ?_ hrb Try.underlying40 ?_ hxl <;> rfl) ?_)
      | fail)
    refine hR.mono ?_
    rintro e W3 ⟨rfl, hJ3, hb3, hk3⟩
    have HR := Lib.hid (And.intro hJ3 (And.intro hb3 hk3))
    clear hJ3 hb3 hk3 hR hy
    gi_wp2
    obtain ⟨hJ3, hb3, hk3⟩ := HR.out
    obtain ⟨hB, hB2, hK2⟩ := HB.out
    have h1 := bY.cell
    have hbV3 := hB2.trans hb3
    exact ⟨hK2.trans (keeps_up hk3 (by omega)), Two.boxed (hB.boxed (by omega) (by omega) b1) (hB.boxed (by omega) (by omega) b2) ((hB.trans hbV3).boxed (by omega) (by omega) b1) ((hB.trans hbV3).boxed (by omega) (by omega) b2), hJ3, hB.trans hbV3⟩
end Go.Proofs.Ythmjkgpfnpdddaa
