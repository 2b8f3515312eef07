/- The iterator over a leaf's entries. -/
import Derived.Test.YthmjkgpfnpdddaaLfGood
import Derived.Test.YthmjkgpfnpdddaaObjCol
import Derived.Test.YthmjkgpfnpdddaaChunk
import Derived.Test.YthmjkgpfnpdddaaHeld
namespace Go.Proofs.Ythmjkgpfnpdddaa
set_option linter.unusedSimpArgs false
set_option linter.unusedVariables false
open Go.RowKit Go.Shelf Go.Sort
attribute [local go_sem] Oper.semAt_some

theorem entries_any (A : Option Addr) (n c : Nat) (w : World) :
    Calls Try.prog 46 #[.slice A n c] w fun e w' =>
      e = .returned (.func (.func 59) #[] #[.pointer (some ⟨w.heap.size, 0, none⟩)]) ∧ w.alloc (.cells #[.slice A n c] 22) = w' := by
  go_enter Try.func46, Try.ntmps46
  go_wp2
  go_ret
  exact ⟨rfl, rfl⟩

theorem enAt_ok {l : List UInt8} {cnt k : Nat} (hl : l.length = cnt * 36) (hk : k < cnt) : (enAt l (k * 36)).Ok := by
  have h1 := (at8 l (k * 36 + 32)).toNat_lt
  have h2 := (at8 l (k * 36 + 33)).toNat_lt
  have h3 := n16_lt l (k * 36 + 34)
  have : (k + 1) * 36 ≤ cnt * 36 := Nat.mul_le_mul_right _ hk
  constructor <;> simp only [enAt, List.length_take, List.length_drop] <;> omega
theorem en_places : placesOf Try.prog 73 = some [(0, 32), (32, 1), (33, 1), (34, 1)] := by kernel_rfl
theorem built_en (p q r : Int) {L : List UInt8} (hL : L.length = 32) : Try.prog.built 73 [(0, .agg (bvs L).toArray), (1, .int .i64 p), (2, .int .i64 q), (3, .int .i64 r)] = some (EN.mk L p q r).cells.toArray := by
  have h1 : (bvs L).length = 32 := by rw [bvs_len, hL]
  obtain ⟨Z, hZ⟩ : ∃ Z, bvs (List.replicate 32 0) = Z := ⟨_, rfl⟩
  have hz : Z.length = 32 := by rw [← hZ, bvs_len, List.length_replicate]
  have e0 : en0.cells.toArray = (Z ++ [Value.int .i64 0, .int .i64 0, .int .i64 0]).toArray := by rw [← hZ]; rfl
  rw [built_fill enZ en_places, e0, fill_many (off := 0) (size := 32) rfl (by simp [Value.cells, h1]) (by simp [hz]), fill_many (off := 32) (size := 1) rfl rfl (by rw [setMany_size]; simp [hz]), fill_many (off := 33) (size := 1) rfl rfl (by rw [setMany_size, setMany_size]; simp [hz]), fill_many (off := 34) (size := 1) rfl rfl (by rw [setMany_size, setMany_size, setMany_size]; simp [hz]), fill_end]
  have e1 := setMany_mid (x := []) (y := Z) (z := [.int .i64 0, .int .i64 0, .int .i64 0]) (v := bvs L) (by rw [hz, h1])
  have e2 := setMany_mid (x := bvs L) (y := [.int .i64 0]) (z := [.int .i64 0, .int .i64 0]) (v := [.int .i64 p]) rfl
  have e3 := setMany_mid (x := bvs L ++ [.int .i64 p]) (y := [.int .i64 0]) (z := [.int .i64 0]) (v := [.int .i64 q]) rfl
  have e4 := setMany_mid (x := bvs L ++ [.int .i64 p, .int .i64 q]) (y := [.int .i64 0]) (z := []) (v := [.int .i64 r]) rfl
  simp only [Value.cells, List.cons_append, List.nil_append, List.append_assoc, List.length_nil, List.length_append, List.length_cons, h1, Nat.zero_add, Nat.reduceAdd] at e1 e2 e3 e4 ⊢
  rw [e1, e2, e3, e4]
  rfl
set_option maxRecDepth 100000 in
set_option maxHeartbeats 8000000 in
theorem entries_all {BX b o cap cnt sb : Nat} {l : List UInt8} {w : World} (hl : l.length = cnt * 36) (hc : cnt ≤ 1000) (hcap : cnt * 36 ≤ cap) (hm : cap ≤ maxLen) (hbx : BX < w.heap.size) (hb : b < w.heap.size) (hsb : sb < w.heap.size) (hne : BX ≠ sb) (hnb : b ≠ sb)
    (hBX : w.cell? ⟨BX, 0, none⟩ = some (.slice (some ⟨b, o, none⟩) (cnt * 36) cap)) (hr : w.rangeAt b o (bvs l)) :
    SeqAll Fence.wide 11 Try.prog 59 #[.pointer (some ⟨BX, 0, none⟩)] (fun x : Fin cnt => #[env (enAt l (x.1 * 36))]) (w.heap.size + 5) (fun k => k = sb) (fun ys => ys = List.finRange cnt) cnt w := by
  intro l0 J W hl0 hbW hsz hJ hY h0
  subst hl0
  have hBXW := (hbW.cell (p := ⟨BX, 0, none⟩) hbx).trans hBX
  have hrW := bRange hbW hb hr
  have HY := Lib.hid hY
  have HJ := Lib.hid (And.intro hJ h0)
  clear hY hJ h0
  refine callsIn_of_wp_marks Try.func59 rfl trivial ?_ rfl
  simp only [Try.ntmps59, List.size_toArray, List.length_cons, List.length_nil, Nat.reduceAdd, Nat.reduceSub, Array.replicate_succ, Array.replicate_zero, List.push_toArray, List.append_toArray, List.nil_append, List.cons_append]
  have HSZ := Lib.hid hsz
  have hz3 : w.heap.size + 2 ≤ W.heap.size := by omega
  have hbxW : BX < W.heap.size := by omega
  clear hsz
  gi_wp2_with fail
  refine ⟨trivial, ?_⟩
  refine ((callsIn_wide (n := 10)).2 (chunk_any _ _ _ _ (by omega) _)).mono ?_
  rintro e w' ⟨rfl, rfl⟩
  gi_wp2
  obtain ⟨W1, hW1⟩ : ∃ W1, ((W.alloc (.cells #[.func (.yield (w.heap.size + 1)) #[] #[]] 91)).alloc (.cells #[.slice (some ⟨b, o, none⟩) (cnt * 36) cap] 22)).alloc (.cells #[.int .i64 36] 3) = W1 := ⟨_, rfl⟩
  try rw [hW1]
  have hsz1 : W1.heap.size = w.heap.size + 5 := by rw [← hW1]; have := HSZ.out; simp; omega
  have hszW : W.heap.size ≤ w.heap.size + 2 := by have := HSZ.out; omega
  have hs1a : W1.heap.size ≤ w.heap.size + 5 := by omega
  have hs1b : w.heap.size + 5 ≤ W1.heap.size := by omega
  clear hsz1
  have bY : Boxed W1 W.heap.size 91 (.func (.yield (w.heap.size + 1)) #[] #[]) := by rw [← hW1]; exact ((Boxed.new W _ _).alloc _).alloc _
  have b1 : Boxed W1 (W.heap.size + 1) 22 (.slice (some ⟨b, o, none⟩) (cnt * 36) cap) := by
    rw [← hW1]; have := (Boxed.new (W.alloc (.cells #[.func (.yield (w.heap.size + 1)) #[] #[]] 91)) 22 (.slice (some ⟨b, o, none⟩) (cnt * 36) cap)).alloc (.cells #[.int .i64 36] 3); simpa using this
  have b2 : Boxed W1 (W.heap.size + 1 + 1) 3 (.int .i64 36) := by
    rw [← hW1]; have := Boxed.new ((W.alloc (.cells #[.func (.yield (w.heap.size + 1)) #[] #[]] 91)).alloc (.cells #[.slice (some ⟨b, o, none⟩) (cnt * 36) cap] 22)) 3 (.int .i64 36); simpa using this
  have hBW1 : Below W.heap.size W W1 := by rw [← hW1]; exact (((Below.refl _ _).alloc (Nat.le_refl _) _).alloc (by simp) _).alloc (by simp; omega) _
  have rW1 := bRange hBW1 (by omega) hrW
  have hI0 : J [] W1 := by
    obtain ⟨hJ, h0⟩ := HJ.out
    rw [← hW1]
    exact hJ.alloc _ (hJ.alloc _ (hJ.alloc _ h0))
  have hOI := ownFrom_up HJ.out.1 (show W.heap.size ≤ W1.heap.size by omega)
  have HI := Lib.hid (And.intro hI0 (And.intro hBW1 rW1))
  clear hW1 hBXW hrW rW1 hI0 hBW1
  refine wpIn_rangeFunc_ownG rfl (by omega) (gf := 62) (lb := #[.pointer (some ⟨W.heap.size + 1, 0, none⟩), .pointer (some ⟨W.heap.size + 1 + 1, 0, none⟩)]) rfl trivial (enters_of Try.func62 (by kernel_rfl) rfl)
    (chunk_stops (W.heap.size + 1) (W.heap.size + 1 + 1) b o (cnt * 36) cap 36 cnt (by omega) (by omega) (fun k => by omega) hcap (by omega) W1 (by omega) (by omega) b1.cell b2.cell) (fun h k => h.trans k) (fun W l o o' hl h a c => Two.obj (w := W1) (by omega) (by omega) W l o o' hl h a c) (Below.refl _ _) (fun _ => rfl)
    (fun (pre : List (Fin cnt)) V => J pre V ∧ But (w.heap.size + 5) (fun k => k = sb ∨ k = w.heap.size + 1) W1 V)
    (fun _ _ _ => False)
    (hOI.and (But.own (a := W1) (n := w.heap.size + 5) (X := fun k => k = sb ∨ k = w.heap.size + 1) (by omega) (by omega)))
    (fun _ _ _ _ _ hs _ _ => hs)
    ⟨HI.out.1, But.refl _ _ _⟩
    ?a1 ?assign ?body ?done ?stop
  case assign =>
    intro l0 x V K hK
    gi_wp2
    exact hK
  case stop => exact fun D c pre V _ _ h _ => h.elim
  case done =>
    rintro D ys V hD rfl ⟨hJV, hB⟩ hK
    have HJV := Lib.hid hJV
    have HK := Lib.hid hK
    clear hJV hK hB
    gi_wp2
    refine ⟨by simp, .inl ⟨_, _, rfl, run_takeDeferred HK.out, ?_⟩⟩
    exact ⟨_, results_none rfl _ _ _, ⟨_, rfl⟩, _, rfl, HJ.out.1.putObj _ HJV.out (by omega) HK.out rfl⟩
  case body =>
    rintro l1 pre x V ⟨hJV, hB⟩ hlt
    have hcl : cl (cnt * 36) 36 x.1 = 36 := cl_full (cnt := cnt) rfl x.2
    rw [hcl]
    have hx := x.2
    have hx36 : (x.1 + 1) * 36 ≤ cnt * 36 := Nat.mul_le_mul_right _ hx
    have hrV := hB.range (k := b) (by omega) (by omega) HI.out.2.2
    have bYV := hB.boxed (k := W.heap.size) (by omega) (by omega) bY
    have hok := enAt_ok hl hx
    have hzV : w.heap.size + 5 ≤ V.heap.size := by have := hB.size; omega
    have r1 := range_cut hrV (x.1 * 36) 36
    rw [show ((bvs l).drop (x.1 * 36)).take 36 = bvs ((l.drop (x.1 * 36)).take 36) from by simp [bvs, List.map_take, List.map_drop]] at r1
    have hck : ((l.drop (x.1 * 36)).take 36).length = 36 := by rw [List.length_take, List.length_drop, hl]; omega
    have r2 := range_cut r1 0 32
    rw [show ((bvs ((l.drop (x.1 * 36)).take 36)).drop 0).take 32 = bvs (enAt l (x.1 * 36)).key from by
      show _ = bvs ((l.drop (x.1 * 36)).take 32)
      simp [bvs, List.map_take, List.map_drop, List.take_take]] at r2
    have hcel : ∀ j : Nat, j < 36 → V.cell? ⟨b, o + x.1 * 36 + j, none⟩ = some (.int .u8 ((at8 l (x.1 * 36 + j)).toNat : Int)) := fun j hj => by
      have := hrV (x.1 * 36 + j) (.int .u8 ((at8 l (x.1 * 36 + j)).toNat : Int)) (by
        have hlt : x.1 * 36 + j < l.length := by omega
        simp [bvs, bv, at8, List.getElem?_eq_getElem hlt])
      rw [← this, Nat.add_assoc]
    have c32 := hcel 32 (by omega)
    have c33 := hcel 33 (by omega)
    have c34 := hcel 34 (by omega)
    have c35 := hcel 35 (by omega)
    clear hcel
    obtain ⟨q, hq⟩ : ∃ q, o + x.1 * 36 = q := ⟨_, rfl⟩
    rw [hq] at r1 r2 ⊢
    rw [hq] at c32 c33 c34 c35
    have hY2 : YieldAt Fence.wide 8 Try.prog (w.heap.size + 1) #[env (enAt l (x.1 * 36))] V.drew fun e V' => e = .returned (.bool true) ∧ J (pre ++ [x]) V' ∧ But (w.heap.size + 5) (fun k => k = sb ∨ k = w.heap.size + 1) V.drew V' ∧ KeepsFrom W.heap.size V.drew V' :=
      yieldAt_any rfl (HY.out pre x _ (HJ.out.1 _ _ _ none hJV (grown_drew0 _ _) (fun r e => by cases e)) hlt hzV)
    have hbt := built_en ((at8 l (x.1 * 36 + 32)).toNat : Int) ((at8 l (x.1 * 36 + 33)).toNat : Int) ((n16 l (x.1 * 36 + 34) : Nat) : Int) hok.key
    have hor := or16 (at8 l (x.1 * 36 + 34)) (at8 l (x.1 * 36 + 35))
    rw [show (at8 l (x.1 * 36 + 34)).toNat * 256 + (at8 l (x.1 * 36 + 35)).toNat = n16 l (x.1 * 36 + 34) from rfl] at hor
    have l2 := (at8 l (x.1 * 36 + 32)).toNat_lt
    have l3 := (at8 l (x.1 * 36 + 33)).toNat_lt
    have l4 := (at8 l (x.1 * 36 + 34)).toNat_lt
    have l5 := (at8 l (x.1 * 36 + 35)).toNat_lt
    have hkl := hok.key
    have HB := Lib.hid (And.intro hB (And.intro hJV hlt))
    unfold env at hY2
    obtain ⟨E, hE⟩ : ∃ e, enAt l (x.1 * 36) = e := ⟨_, rfl⟩
    have hcE : (EN.mk E.key ((at8 l (x.1 * 36 + 32)).toNat : Int) ((at8 l (x.1 * 36 + 33)).toNat : Int) ((n16 l (x.1 * 36 + 34) : Nat) : Int)).cells = E.cells := by rw [← hE]; rfl
    rw [hE] at hY2 hbt hkl r2
    rw [hcE] at hbt
    clear hcE hE hok
    generalize hP2 : (at8 l (x.1 * 36 + 32)).toNat = P2 at *
    generalize hP3 : (at8 l (x.1 * 36 + 33)).toNat = P3 at *
    generalize hP4 : (at8 l (x.1 * 36 + 34)).toNat = P4 at *
    generalize hP5 : (at8 l (x.1 * 36 + 35)).toNat = P5 at *
    generalize hM : n16 l (x.1 * 36 + 34) = M at *
    have e2 : IntKind.i64.wrap (P2 : Int) = P2 := wrap_small _ (by omega) (by omega)
    have e3 : IntKind.i64.wrap (P3 : Int) = P3 := wrap_small _ (by omega) (by omega)
    have e4 : IntKind.i64.wrap (P4 : Int) = P4 := wrap_small _ (by omega) (by omega)
    have e5 : IntKind.i64.wrap (P5 : Int) = P5 := wrap_small _ (by omega) (by omega)
    have e6 : IntKind.i64.wrap ((P4 : Int) * 256) = (P4 : Int) * 256 := wrap_small _ (by omega) (by omega)
    clear hP2 hP3 hP4 hP5 hM r1
    clear hB hJV hlt hck hrV hx36 hcl hq
    have c2 := bYV.cell
    have iK : (Try.prog.info? 71).map (·.size) = some (bvs E.key).length := by rw [bvs_len, hkl]; kernel_rfl
    have ha1 := fun (w : World) (a : Addr) (n c : Nat) (h : 32 ≤ n) => run_arrayAt (P := Try.prog) Try.underlying71 a n c h w
    have hmx : Try.prog.follows .mixedOrders = true := by kernel_rfl
    let S : World → Prop := fun w' => w'.cell? ⟨W.heap.size, 0, none⟩ = some (.func (.yield (w.heap.size + 1)) #[] #[]) ∧ w'.rangeAt b q (bvs E.key) ∧ w'.cell? ⟨b, q + 32, none⟩ = some (.int .u8 P2) ∧ w'.cell? ⟨b, q + 33, none⟩ = some (.int .u8 P3) ∧ w'.cell? ⟨b, q + 34, none⟩ = some (.int .u8 P4) ∧ w'.cell? ⟨b, q + 35, none⟩ = some (.int .u8 P5)
    have hS0 : S V.drew := ⟨c2, r2, c32, c33, c34, c35⟩
    clear c2 r2 bYV c32 c33 c34 c35
    gi_wp2
    refine round_heldIn S rfl hmx (by kernel_rfl) ?_
    refine wpAnyInH_take (i := 0) (oi := ?oi_1094) (v := ?v_1094) ?hro_1094 ?ho_1094 ?h1_1094 ?h2_1094 ?h3_1094 ?hq_1094 ?hw_1094 ?hy_1094 ?hab_1094 ?hs_1094 ?rest_1094; (case hro_1094 => rfl); (case h2_1094 => kernel_rfl); (case h3_1094 => kernel_rfl); (case ho_1094 => (simp only [List.getElem?_toArray, List.getElem?_cons_zero, List.getElem?_cons_succ]; rfl)); (case h1_1094 => kernel_rfl); (case hq_1094 => exact fun _ _ _ h => h); (case hw_1094 => rfl); (case hy_1094 => (intro w' hSw; (try simp only [S] at hSw); go_simp; (try with_reducible rfl))); (case hab_1094 => exact fun _ => rfl); (case hs_1094 => assumption); (try simp only [Act.put, List.setIfInBounds_toArray, List.set_cons_zero, List.set_cons_succ])
    refine wpAnyInH_take (i := 1) (oi := ?oi_1095) (v := ?v_1095) ?hro_1095 ?ho_1095 ?h1_1095 ?h2_1095 ?h3_1095 ?hq_1095 ?hw_1095 ?hy_1095 ?hab_1095 ?hs_1095 ?rest_1095; (case hro_1095 => rfl); (case h2_1095 => kernel_rfl); (case h3_1095 => kernel_rfl); (case ho_1095 => (simp only [List.getElem?_toArray, List.getElem?_cons_zero, List.getElem?_cons_succ]; rfl)); (case h1_1095 => kernel_rfl); (case hq_1095 => exact fun _ _ _ h => h); (case hw_1095 => rfl); (case hy_1095 => (intro w' hSw; (try simp only [S] at hSw); go_simp; (try with_reducible rfl))); (case hab_1095 => exact fun _ => rfl); (case hs_1095 => assumption); (try simp only [Act.put, List.setIfInBounds_toArray, List.set_cons_zero, List.set_cons_succ])
    refine wpAnyInH_take (i := 2) (oi := ?oi_1096) (v := ?v_1096) ?hro_1096 ?ho_1096 ?h1_1096 ?h2_1096 ?h3_1096 ?hq_1096 ?hw_1096 ?hy_1096 ?hab_1096 ?hs_1096 ?rest_1096; (case hro_1096 => rfl); (case h2_1096 => kernel_rfl); (case h3_1096 => kernel_rfl); (case ho_1096 => (simp only [List.getElem?_toArray, List.getElem?_cons_zero, List.getElem?_cons_succ]; rfl)); (case h1_1096 => kernel_rfl); (case hq_1096 => exact fun _ _ _ h => h); (case hw_1096 => rfl); (case hy_1096 => (intro w' hSw; (try simp only [S] at hSw); go_simp; (try with_reducible rfl))); (case hab_1096 => exact fun _ => rfl); (case hs_1096 => assumption); (try simp only [Act.put, List.setIfInBounds_toArray, List.set_cons_zero, List.set_cons_succ])
    refine wpAnyInH_take (i := 3) (oi := ?oi_1097) (v := ?v_1097) ?hro_1097 ?ho_1097 ?h1_1097 ?h2_1097 ?h3_1097 ?hq_1097 ?hw_1097 ?hy_1097 ?hab_1097 ?hs_1097 ?rest_1097; (case hro_1097 => rfl); (case h2_1097 => kernel_rfl); (case h3_1097 => kernel_rfl); (case ho_1097 => (simp only [List.getElem?_toArray, List.getElem?_cons_zero, List.getElem?_cons_succ]; rfl)); (case h1_1097 => kernel_rfl); (case hq_1097 => exact fun _ _ _ h => h); (case hw_1097 => rfl); (case hy_1097 => (intro w' hSw; (try simp only [S] at hSw); go_simp; (try with_reducible rfl))); (case hab_1097 => exact fun _ => rfl); (case hs_1097 => assumption); (try simp only [Act.put, List.setIfInBounds_toArray, List.set_cons_zero, List.set_cons_succ])
    refine wpAnyInH_take (i := 4) (oi := ?oi_1113) (v := ?v_1113) ?hro_1113 ?ho_1113 ?h1_1113 ?h2_1113 ?h3_1113 ?hq_1113 ?hw_1113 ?hy_1113 ?hab_1113 ?hs_1113 ?rest_1113; (case hro_1113 => rfl); (case h2_1113 => kernel_rfl); (case h3_1113 => kernel_rfl); (case ho_1113 => (simp only [List.getElem?_toArray, List.getElem?_cons_zero, List.getElem?_cons_succ]; rfl)); (case h1_1113 => kernel_rfl); (case hq_1113 => exact fun _ _ _ h => h); (case hw_1113 => rfl); (case hy_1113 => (intro w' hSw; refine exec_load_row (x := .tmp 13) ?_ ?_ hSw.2.1 Try.underlying71 ?_ iK <;> rfl)); (case hab_1113 => exact fun _ => rfl); (case hs_1113 => assumption); (try simp only [Act.put, List.setIfInBounds_toArray, List.set_cons_zero, List.set_cons_succ])
    refine wpAnyInH_take (i := 5) (oi := ?oi_1098) (v := ?v_1098) ?hro_1098 ?ho_1098 ?h1_1098 ?h2_1098 ?h3_1098 ?hq_1098 ?hw_1098 ?hy_1098 ?hab_1098 ?hs_1098 ?rest_1098; (case hro_1098 => rfl); (case h2_1098 => kernel_rfl); (case h3_1098 => kernel_rfl); (case ho_1098 => (simp only [List.getElem?_toArray, List.getElem?_cons_zero, List.getElem?_cons_succ]; rfl)); (case h1_1098 => kernel_rfl); (case hq_1098 => exact fun _ _ _ h => h); (case hw_1098 => rfl); (case hy_1098 => (intro w' hSw; (try simp only [S] at hSw); go_simp; (try with_reducible rfl))); (case hab_1098 => exact fun _ => rfl); (case hs_1098 => assumption); (try simp only [Act.put, List.setIfInBounds_toArray, List.set_cons_zero, List.set_cons_succ])
    refine wpAnyInH_take (i := 6) (oi := ?oi_1099) (v := ?v_1099) ?hro_1099 ?ho_1099 ?h1_1099 ?h2_1099 ?h3_1099 ?hq_1099 ?hw_1099 ?hy_1099 ?hab_1099 ?hs_1099 ?rest_1099; (case hro_1099 => rfl); (case h2_1099 => kernel_rfl); (case h3_1099 => kernel_rfl); (case ho_1099 => (simp only [List.getElem?_toArray, List.getElem?_cons_zero, List.getElem?_cons_succ]; rfl)); (case h1_1099 => kernel_rfl); (case hq_1099 => exact fun _ _ _ h => h); (case hw_1099 => rfl); (case hy_1099 => (intro w' hSw; (try simp only [S] at hSw); go_simp; (try with_reducible rfl))); (case hab_1099 => exact fun _ => rfl); (case hs_1099 => assumption); (try simp only [Act.put, List.setIfInBounds_toArray, List.set_cons_zero, List.set_cons_succ])
    refine wpAnyInH_take (i := 7) (oi := ?oi_1114) (v := ?v_1114) ?hro_1114 ?ho_1114 ?h1_1114 ?h2_1114 ?h3_1114 ?hq_1114 ?hw_1114 ?hy_1114 ?hab_1114 ?hs_1114 ?rest_1114; (case hro_1114 => rfl); (case h2_1114 => kernel_rfl); (case h3_1114 => kernel_rfl); (case ho_1114 => (simp only [List.getElem?_toArray, List.getElem?_cons_zero, List.getElem?_cons_succ]; rfl)); (case h1_1114 => kernel_rfl); (case hq_1114 => exact fun _ _ _ h => h); (case hw_1114 => rfl); (case hy_1114 => (intro w' hSw; have hq := hSw.2.2.1; go_simp; (try with_reducible rfl))); (case hab_1114 => exact fun _ => rfl); (case hs_1114 => assumption); (try simp only [Act.put, List.setIfInBounds_toArray, List.set_cons_zero, List.set_cons_succ])
    refine wpAnyInH_take (i := 8) (oi := ?oi_1100) (v := ?v_1100) ?hro_1100 ?ho_1100 ?h1_1100 ?h2_1100 ?h3_1100 ?hq_1100 ?hw_1100 ?hy_1100 ?hab_1100 ?hs_1100 ?rest_1100; (case hro_1100 => rfl); (case h2_1100 => kernel_rfl); (case h3_1100 => kernel_rfl); (case ho_1100 => (simp only [List.getElem?_toArray, List.getElem?_cons_zero, List.getElem?_cons_succ]; rfl)); (case h1_1100 => kernel_rfl); (case hq_1100 => exact fun _ _ _ h => h); (case hw_1100 => rfl); (case hy_1100 => (intro w' hSw; (try simp only [S] at hSw); go_simp; (try with_reducible rfl))); (case hab_1100 => exact fun _ => rfl); (case hs_1100 => assumption); (try simp only [Act.put, List.setIfInBounds_toArray, List.set_cons_zero, List.set_cons_succ])
    refine wpAnyInH_take (i := 9) (oi := ?oi_1101) (v := ?v_1101) ?hro_1101 ?ho_1101 ?h1_1101 ?h2_1101 ?h3_1101 ?hq_1101 ?hw_1101 ?hy_1101 ?hab_1101 ?hs_1101 ?rest_1101; (case hro_1101 => rfl); (case h2_1101 => kernel_rfl); (case h3_1101 => kernel_rfl); (case ho_1101 => (simp only [List.getElem?_toArray, List.getElem?_cons_zero, List.getElem?_cons_succ]; rfl)); (case h1_1101 => kernel_rfl); (case hq_1101 => exact fun _ _ _ h => h); (case hw_1101 => rfl); (case hy_1101 => (intro w' hSw; (try simp only [S] at hSw); go_simp; (try with_reducible rfl))); (case hab_1101 => exact fun _ => rfl); (case hs_1101 => assumption); (try simp only [Act.put, List.setIfInBounds_toArray, List.set_cons_zero, List.set_cons_succ])
    refine wpAnyInH_take (i := 10) (oi := ?oi_1102) (v := ?v_1102) ?hro_1102 ?ho_1102 ?h1_1102 ?h2_1102 ?h3_1102 ?hq_1102 ?hw_1102 ?hy_1102 ?hab_1102 ?hs_1102 ?rest_1102; (case hro_1102 => rfl); (case h2_1102 => kernel_rfl); (case h3_1102 => kernel_rfl); (case ho_1102 => (simp only [List.getElem?_toArray, List.getElem?_cons_zero, List.getElem?_cons_succ]; rfl)); (case h1_1102 => kernel_rfl); (case hq_1102 => exact fun _ _ _ h => h); (case hw_1102 => rfl); (case hy_1102 => (intro w' hSw; (try simp only [S] at hSw); go_simp; (try with_reducible rfl))); (case hab_1102 => exact fun _ => rfl); (case hs_1102 => assumption); (try simp only [Act.put, List.setIfInBounds_toArray, List.set_cons_zero, List.set_cons_succ])
    refine wpAnyInH_take (i := 11) (oi := ?oi_1115) (v := ?v_1115) ?hro_1115 ?ho_1115 ?h1_1115 ?h2_1115 ?h3_1115 ?hq_1115 ?hw_1115 ?hy_1115 ?hab_1115 ?hs_1115 ?rest_1115; (case hro_1115 => rfl); (case h2_1115 => kernel_rfl); (case h3_1115 => kernel_rfl); (case ho_1115 => (simp only [List.getElem?_toArray, List.getElem?_cons_zero, List.getElem?_cons_succ]; rfl)); (case h1_1115 => kernel_rfl); (case hq_1115 => exact fun _ _ _ h => h); (case hw_1115 => rfl); (case hy_1115 => (intro w' hSw; have hq := hSw.2.2.2.1; go_simp; (try with_reducible rfl))); (case hab_1115 => exact fun _ => rfl); (case hs_1115 => assumption); (try simp only [Act.put, List.setIfInBounds_toArray, List.set_cons_zero, List.set_cons_succ])
    refine wpAnyInH_take (i := 12) (oi := ?oi_1103) (v := ?v_1103) ?hro_1103 ?ho_1103 ?h1_1103 ?h2_1103 ?h3_1103 ?hq_1103 ?hw_1103 ?hy_1103 ?hab_1103 ?hs_1103 ?rest_1103; (case hro_1103 => rfl); (case h2_1103 => kernel_rfl); (case h3_1103 => kernel_rfl); (case ho_1103 => (simp only [List.getElem?_toArray, List.getElem?_cons_zero, List.getElem?_cons_succ]; rfl)); (case h1_1103 => kernel_rfl); (case hq_1103 => exact fun _ _ _ h => h); (case hw_1103 => rfl); (case hy_1103 => (intro w' hSw; (try simp only [S] at hSw); go_simp; (try with_reducible rfl))); (case hab_1103 => exact fun _ => rfl); (case hs_1103 => assumption); (try simp only [Act.put, List.setIfInBounds_toArray, List.set_cons_zero, List.set_cons_succ])
    refine wpAnyInH_take (i := 13) (oi := ?oi_1104) (v := ?v_1104) ?hro_1104 ?ho_1104 ?h1_1104 ?h2_1104 ?h3_1104 ?hq_1104 ?hw_1104 ?hy_1104 ?hab_1104 ?hs_1104 ?rest_1104; (case hro_1104 => rfl); (case h2_1104 => kernel_rfl); (case h3_1104 => kernel_rfl); (case ho_1104 => (simp only [List.getElem?_toArray, List.getElem?_cons_zero, List.getElem?_cons_succ]; rfl)); (case h1_1104 => kernel_rfl); (case hq_1104 => exact fun _ _ _ h => h); (case hw_1104 => rfl); (case hy_1104 => (intro w' hSw; (try simp only [S] at hSw); go_simp; (try with_reducible rfl))); (case hab_1104 => exact fun _ => rfl); (case hs_1104 => assumption); (try simp only [Act.put, List.setIfInBounds_toArray, List.set_cons_zero, List.set_cons_succ])
    refine wpAnyInH_take (i := 14) (oi := ?oi_1105) (v := ?v_1105) ?hro_1105 ?ho_1105 ?h1_1105 ?h2_1105 ?h3_1105 ?hq_1105 ?hw_1105 ?hy_1105 ?hab_1105 ?hs_1105 ?rest_1105; (case hro_1105 => rfl); (case h2_1105 => kernel_rfl); (case h3_1105 => kernel_rfl); (case ho_1105 => (simp only [List.getElem?_toArray, List.getElem?_cons_zero, List.getElem?_cons_succ]; rfl)); (case h1_1105 => kernel_rfl); (case hq_1105 => exact fun _ _ _ h => h); (case hw_1105 => rfl); (case hy_1105 => (intro w' hSw; (try simp only [S] at hSw); go_simp; (try with_reducible rfl))); (case hab_1105 => exact fun _ => rfl); (case hs_1105 => assumption); (try simp only [Act.put, List.setIfInBounds_toArray, List.set_cons_zero, List.set_cons_succ])
    refine wpAnyInH_take (i := 15) (oi := ?oi_1116) (v := ?v_1116) ?hro_1116 ?ho_1116 ?h1_1116 ?h2_1116 ?h3_1116 ?hq_1116 ?hw_1116 ?hy_1116 ?hab_1116 ?hs_1116 ?rest_1116; (case hro_1116 => rfl); (case h2_1116 => kernel_rfl); (case h3_1116 => kernel_rfl); (case ho_1116 => (simp only [List.getElem?_toArray, List.getElem?_cons_zero, List.getElem?_cons_succ]; rfl)); (case h1_1116 => kernel_rfl); (case hq_1116 => exact fun _ _ _ h => h); (case hw_1116 => rfl); (case hy_1116 => (intro w' hSw; have hq := hSw.2.2.2.2.1; go_simp; (try with_reducible rfl))); (case hab_1116 => exact fun _ => rfl); (case hs_1116 => assumption); (try simp only [Act.put, List.setIfInBounds_toArray, List.set_cons_zero, List.set_cons_succ])
    refine wpAnyInH_take (i := 16) (oi := ?oi_1106) (v := ?v_1106) ?hro_1106 ?ho_1106 ?h1_1106 ?h2_1106 ?h3_1106 ?hq_1106 ?hw_1106 ?hy_1106 ?hab_1106 ?hs_1106 ?rest_1106; (case hro_1106 => rfl); (case h2_1106 => kernel_rfl); (case h3_1106 => kernel_rfl); (case ho_1106 => (simp only [List.getElem?_toArray, List.getElem?_cons_zero, List.getElem?_cons_succ]; rfl)); (case h1_1106 => kernel_rfl); (case hq_1106 => exact fun _ _ _ h => h); (case hw_1106 => rfl); (case hy_1106 => (intro w' hSw; (try simp only [S] at hSw); go_simp; (try with_reducible rfl))); (case hab_1106 => exact fun _ => rfl); (case hs_1106 => assumption); (try simp only [Act.put, List.setIfInBounds_toArray, List.set_cons_zero, List.set_cons_succ])
    refine wpAnyInH_take (i := 17) (oi := ?oi_1107) (v := ?v_1107) ?hro_1107 ?ho_1107 ?h1_1107 ?h2_1107 ?h3_1107 ?hq_1107 ?hw_1107 ?hy_1107 ?hab_1107 ?hs_1107 ?rest_1107; (case hro_1107 => rfl); (case h2_1107 => kernel_rfl); (case h3_1107 => kernel_rfl); (case ho_1107 => (simp only [List.getElem?_toArray, List.getElem?_cons_zero, List.getElem?_cons_succ]; rfl)); (case h1_1107 => kernel_rfl); (case hq_1107 => exact fun _ _ _ h => h); (case hw_1107 => rfl); (case hy_1107 => (intro w' hSw; (try simp only [S] at hSw); go_simp; (try with_reducible rfl))); (case hab_1107 => exact fun _ => rfl); (case hs_1107 => assumption); (try simp only [Act.put, List.setIfInBounds_toArray, List.set_cons_zero, List.set_cons_succ])
    refine wpAnyInH_take (i := 18) (oi := ?oi_1108) (v := ?v_1108) ?hro_1108 ?ho_1108 ?h1_1108 ?h2_1108 ?h3_1108 ?hq_1108 ?hw_1108 ?hy_1108 ?hab_1108 ?hs_1108 ?rest_1108; (case hro_1108 => rfl); (case h2_1108 => kernel_rfl); (case h3_1108 => kernel_rfl); (case ho_1108 => (simp only [List.getElem?_toArray, List.getElem?_cons_zero, List.getElem?_cons_succ]; rfl)); (case h1_1108 => kernel_rfl); (case hq_1108 => exact fun _ _ _ h => h); (case hw_1108 => rfl); (case hy_1108 => (intro w' hSw; (try simp only [S] at hSw); go_simp; (try with_reducible rfl))); (case hab_1108 => exact fun _ => rfl); (case hs_1108 => assumption); (try simp only [Act.put, List.setIfInBounds_toArray, List.set_cons_zero, List.set_cons_succ])
    refine wpAnyInH_take (i := 19) (oi := ?oi_1109) (v := ?v_1109) ?hro_1109 ?ho_1109 ?h1_1109 ?h2_1109 ?h3_1109 ?hq_1109 ?hw_1109 ?hy_1109 ?hab_1109 ?hs_1109 ?rest_1109; (case hro_1109 => rfl); (case h2_1109 => kernel_rfl); (case h3_1109 => kernel_rfl); (case ho_1109 => (simp only [List.getElem?_toArray, List.getElem?_cons_zero, List.getElem?_cons_succ]; rfl)); (case h1_1109 => kernel_rfl); (case hq_1109 => exact fun _ _ _ h => h); (case hw_1109 => rfl); (case hy_1109 => (intro w' hSw; (try simp only [S] at hSw); go_simp; (try with_reducible rfl))); (case hab_1109 => exact fun _ => rfl); (case hs_1109 => assumption); (try simp only [Act.put, List.setIfInBounds_toArray, List.set_cons_zero, List.set_cons_succ])
    refine wpAnyInH_take (i := 20) (oi := ?oi_1117) (v := ?v_1117) ?hro_1117 ?ho_1117 ?h1_1117 ?h2_1117 ?h3_1117 ?hq_1117 ?hw_1117 ?hy_1117 ?hab_1117 ?hs_1117 ?rest_1117; (case hro_1117 => rfl); (case h2_1117 => kernel_rfl); (case h3_1117 => kernel_rfl); (case ho_1117 => (simp only [List.getElem?_toArray, List.getElem?_cons_zero, List.getElem?_cons_succ]; rfl)); (case h1_1117 => kernel_rfl); (case hq_1117 => exact fun _ _ _ h => h); (case hw_1117 => rfl); (case hy_1117 => (intro w' hSw; have hq := hSw.2.2.2.2.2; go_simp; (try with_reducible rfl))); (case hab_1117 => exact fun _ => rfl); (case hs_1117 => assumption); (try simp only [Act.put, List.setIfInBounds_toArray, List.set_cons_zero, List.set_cons_succ])
    refine wpAnyInH_take (i := 21) (oi := ?oi_1110) (v := ?v_1110) ?hro_1110 ?ho_1110 ?h1_1110 ?h2_1110 ?h3_1110 ?hq_1110 ?hw_1110 ?hy_1110 ?hab_1110 ?hs_1110 ?rest_1110; (case hro_1110 => rfl); (case h2_1110 => kernel_rfl); (case h3_1110 => kernel_rfl); (case ho_1110 => (simp only [List.getElem?_toArray, List.getElem?_cons_zero, List.getElem?_cons_succ]; rfl)); (case h1_1110 => kernel_rfl); (case hq_1110 => exact fun _ _ _ h => h); (case hw_1110 => rfl); (case hy_1110 => (intro w' hSw; (try simp only [S] at hSw); go_simp; (try with_reducible rfl))); (case hab_1110 => exact fun _ => rfl); (case hs_1110 => assumption); (try simp only [Act.put, List.setIfInBounds_toArray, List.set_cons_zero, List.set_cons_succ])
    refine wpAnyInH_take (i := 22) (oi := ?oi_1111) (v := ?v_1111) ?hro_1111 ?ho_1111 ?h1_1111 ?h2_1111 ?h3_1111 ?hq_1111 ?hw_1111 ?hy_1111 ?hab_1111 ?hs_1111 ?rest_1111; (case hro_1111 => rfl); (case h2_1111 => kernel_rfl); (case h3_1111 => kernel_rfl); (case ho_1111 => (simp only [List.getElem?_toArray, List.getElem?_cons_zero, List.getElem?_cons_succ]; rfl)); (case h1_1111 => kernel_rfl); (case hq_1111 => exact fun _ _ _ h => h); (case hw_1111 => rfl); (case hy_1111 => (intro w' hSw; (try simp only [S] at hSw); go_simp; (try with_reducible rfl))); (case hab_1111 => exact fun _ => rfl); (case hs_1111 => assumption); (try simp only [Act.put, List.setIfInBounds_toArray, List.set_cons_zero, List.set_cons_succ])
    refine wpAnyInH_take (i := 23) (oi := ?oi_1118) (v := ?v_1118) ?hro_1118 ?ho_1118 ?h1_1118 ?h2_1118 ?h3_1118 ?hq_1118 ?hw_1118 ?hy_1118 ?hab_1118 ?hs_1118 ?rest_1118; (case hro_1118 => rfl); (case h2_1118 => kernel_rfl); (case h3_1118 => kernel_rfl); (case ho_1118 => (simp only [List.getElem?_toArray, List.getElem?_cons_zero, List.getElem?_cons_succ]; rfl)); (case h1_1118 => kernel_rfl); (case hq_1118 => exact fun _ _ _ h => h); (case hw_1118 => rfl); (case hy_1118 => (intro w' hSw; refine exec_built (t := 73) (cs := E.cells.toArray) (parts := #[(0, .tmp 14), (1, .tmp 18), (2, .tmp 22), (3, .tmp 32)]) ?_ ?_ w'; exact rfl; simp only [List.map_toArray, List.map_cons, List.map_nil]; exact hbt)); (case hab_1118 => exact fun _ => rfl); (case hs_1118 => assumption); (try simp only [Act.put, List.setIfInBounds_toArray, List.set_cons_zero, List.set_cons_succ])
    obtain ⟨fn, tmps, assign, body, hy, hR⟩ := hY2
    refine wpAnyInH_ready (rs := [24]) (by kernel_rfl) (by simp) (AllReadyInH.cons (o := ?oo24_1119) ?hoo24_1119 (fun K hK => ?steponly1119) AllReadyInH.nil); (case hoo24_1119 => (simp only [List.getElem?_toArray, List.getElem?_cons_zero, List.getElem?_cons_succ]; rfl))
    go_simp
    refine RoundIn.mono hR ?_
    rintro e W3 ⟨rfl, hJ3, hb3, hk3⟩
    have hS3 : S W3 := ⟨(World.cell?_of_block (a := ⟨W.heap.size, 0, none⟩) (hb3.block W.heap.size (by omega) (by omega))).trans hS0.1, hb3.range (by omega) (by omega) hS0.2.1, (World.cell?_of_block (a := ⟨b, q + 32, none⟩) (hb3.block b (by omega) (by omega))).trans hS0.2.2.1, (World.cell?_of_block (a := ⟨b, q + 33, none⟩) (hb3.block b (by omega) (by omega))).trans hS0.2.2.2.1, (World.cell?_of_block (a := ⟨b, q + 34, none⟩) (hb3.block b (by omega) (by omega))).trans hS0.2.2.2.2.1, (World.cell?_of_block (a := ⟨b, q + 35, none⟩) (hb3.block b (by omega) (by omega))).trans hS0.2.2.2.2.2⟩
    have HR := Lib.hid (And.intro hJ3 (And.intro hb3 hk3))
    clear hJ3 hb3 hk3 hR
    refine hK.out _ _ hS3 (fun _ => ?_)
    clear hK K
    (try simp only [Act.put, List.setIfInBounds_toArray, List.set_cons_zero, List.set_cons_succ])
    refine wpAnyInH_take (i := 25) (oi := ?oi_1112) (v := ?v_1112) ?hro_1112 ?ho_1112 ?h1_1112 ?h2_1112 ?h3_1112 ?hq_1112 ?hw_1112 ?hy_1112 ?hab_1112 ?hs_1112 ?rest_1112; (case hro_1112 => rfl); (case h2_1112 => kernel_rfl); (case h3_1112 => kernel_rfl); (case ho_1112 => (simp only [List.getElem?_toArray, List.getElem?_cons_zero, List.getElem?_cons_succ]; rfl)); (case h1_1112 => kernel_rfl); (case hq_1112 => exact fun _ _ _ h => h); (case hw_1112 => rfl); (case hy_1112 => (intro w' hSw; (try simp only [S] at hSw); go_simp; (try with_reducible rfl))); (case hab_1112 => exact fun _ => rfl); (case hs_1112 => assumption); (try simp only [Act.put, List.setIfInBounds_toArray, List.set_cons_zero, List.set_cons_succ])
    refine wpAnyInH_done (by kernel_rfl) ?_ _
    gi_wp2
    obtain ⟨hJ3, hb3, hk3⟩ := HR.out
    obtain ⟨hB, hJV, hlt⟩ := HB.out
    have h1 := bY.cell
    have hbV3 : But (w.heap.size + 5) (fun k => k = sb ∨ k = w.heap.size + 1) V W3 := (show But (w.heap.size + 5) (fun k => k = sb ∨ k = w.heap.size + 1) V V.drew from ⟨rfl, rfl, rfl, Nat.le_refl _, fun _ _ _ => rfl⟩).trans hb3
    exact ⟨(show KeepsFrom W1.heap.size V V.drew from ⟨Nat.le_refl _, fun _ _ _ h _ => h⟩).trans (keeps_up hk3 (by omega)), Two.boxed (hB.boxed (by omega) (by omega) b1) (hB.boxed (by omega) (by omega) b2) ((hB.trans hbV3).boxed (by omega) (by omega) b1) ((hB.trans hbV3).boxed (by omega) (by omega) b2), hJ3, hB.trans hbV3⟩
end Go.Proofs.Ythmjkgpfnpdddaa
