/- The iterator over a log's entries, and its collection. -/
import Derived.Test.YtjfkaebikmnnaaaRevFind
import Derived.Test.YtjfkaebikmnnaaaChunk
import Derived.Test.YtjfkaebikmnnaaaHeld
namespace Go.Proofs.Ytjfkaebikmnnaaa
set_option linter.unusedSimpArgs false
set_option linter.unusedVariables false
open Go.RowKit Go.Shelf Go.Sort
attribute [local go_sem] Oper.semAt_some

theorem entries_any (A : Option Addr) (n c : Nat) (w : World) :
    Calls Try.prog 36 #[.slice A n c] w fun e w' =>
      e = .returned (.func (.func 42) #[] #[.pointer (some ⟨w.heap.size, 0, none⟩)]) ∧ w.alloc (.cells #[.slice A n c] 24) = w' := by
  go_enter Try.func36, Try.ntmps36
  go_wp2
  go_ret
  exact ⟨rfl, rfl⟩

/-- the k-th entry of an entries' text -/
def entE (l : List UInt8) (k : Nat) : LE := ⟨n16 l (k * 34), (l.drop (k * 34 + 2)).take 32⟩
theorem entE_ok {l : List UInt8} {cnt k : Nat} (hl : l.length = cnt * 34) (hk : k < cnt) : (entE l k).Ok := by
  have := n16_lt l (k * 34)
  refine ⟨?_, ?_⟩
  · show -9223372036854775808 ≤ ((n16 l (k * 34) : Nat) : Int) ∧ ((n16 l (k * 34) : Nat) : Int) ≤ 9223372036854775807
    omega
  · show ((l.drop (k * 34 + 2)).take 32).length = 32
    rw [List.length_take, List.length_drop, hl]
    have : (k + 1) * 34 ≤ cnt * 34 := Nat.mul_le_mul_right _ hk
    omega
theorem built_le (z : Int) {L : List UInt8} (hL : L.length = 32) : Try.prog.built 66 [(0, .int .i64 z), (1, .agg (bvs L).toArray)] = some (LE.mk z L).cells.toArray :=
  built_two leZ (by rw [List.size_toArray, le0_ok.len]) (by kernel_rfl) (.int .i64 z) rfl (bvs L) (by rw [bvs_len, hL])
theorem grown_drewN (w : World) (k : Nat) (row : Option Nat) : w.grownBy (w.drewN k) row := ⟨rfl, rfl, rfl, Nat.le_refl _, fun _ _ _ => rfl⟩
theorem ownFrom_up {β : Type} {B C : Nat} {I : β → World → Prop} (h : OwnFrom B I) (hC : B ≤ C) : OwnFrom C I := fun s X Y row hs hg hr => h s X Y row hs hg (fun r e => ⟨Nat.le_trans hC (hr r e).1, (hr r e).2⟩)

set_option maxRecDepth 100000 in
set_option maxHeartbeats 8000000 in
theorem entries_all {BX b o cap cnt sb : Nat} {l : List UInt8} {w : World} (hl : l.length = cnt * 34) (hc : cnt ≤ 1000) (hcap : cnt * 34 ≤ cap) (hm : cap ≤ maxLen) (hbx : BX < w.heap.size) (hb : b < w.heap.size) (hsb : sb < w.heap.size) (hne : BX ≠ sb) (hnb : b ≠ sb)
    (hBX : w.cell? ⟨BX, 0, none⟩ = some (.slice (some ⟨b, o, none⟩) (cnt * 34) cap)) (hr : w.rangeAt b o (bvs l)) :
    SeqAll Fence.wide 11 Try.prog 42 #[.pointer (some ⟨BX, 0, none⟩)] (fun x : Fin cnt => #[lev (entE l x.1)]) (w.heap.size + 5) (fun k => k = sb) (fun ys => ys = List.finRange cnt) cnt w := by
  intro l0 J W hl0 hbW hsz hJ hY h0
  subst hl0
  have hBXW := (hbW.cell (p := ⟨BX, 0, none⟩) hbx).trans hBX
  have hrW := bRange hbW hb hr
  have HY := Lib.hid hY
  have HJ := Lib.hid (And.intro hJ h0)
  clear hY hJ h0
  refine callsIn_of_wp_marks Try.func42 rfl trivial ?_ rfl
  simp only [Try.ntmps42, List.size_toArray, List.length_cons, List.length_nil, Nat.reduceAdd, Nat.reduceSub, Array.replicate_succ, Array.replicate_zero, List.push_toArray, List.append_toArray, List.nil_append, List.cons_append]
  have HSZ := Lib.hid hsz
  have hz3 : w.heap.size + 2 ≤ W.heap.size := by omega
  have hbxW : BX < W.heap.size := by omega
  clear hsz
  gi_wp2_with fail
  refine ⟨trivial, ?_⟩
  refine ((callsIn_wide (n := 10)).2 (chunk_any _ _ _ _ (by omega) _)).mono ?_
  rintro e w' ⟨rfl, rfl⟩
  gi_wp2
  obtain ⟨W1, hW1⟩ : ∃ W1, ((W.alloc (.cells #[.func (.yield (w.heap.size + 1)) #[] #[]] 82)).alloc (.cells #[.slice (some ⟨b, o, none⟩) (cnt * 34) cap] 24)).alloc (.cells #[.int .i64 34] 3) = W1 := ⟨_, rfl⟩
  try rw [hW1]
  have hsz1 : W1.heap.size = w.heap.size + 5 := by rw [← hW1]; have := HSZ.out; simp; omega
  have hszW : W.heap.size ≤ w.heap.size + 2 := by have := HSZ.out; omega
  have hs1a : W1.heap.size ≤ w.heap.size + 5 := by omega
  have hs1b : w.heap.size + 5 ≤ W1.heap.size := by omega
  clear hsz1
  have bY : Boxed W1 W.heap.size 82 (.func (.yield (w.heap.size + 1)) #[] #[]) := by rw [← hW1]; exact ((Boxed.new W _ _).alloc _).alloc _
  have b1 : Boxed W1 (W.heap.size + 1) 24 (.slice (some ⟨b, o, none⟩) (cnt * 34) cap) := by
    rw [← hW1]; have := (Boxed.new (W.alloc (.cells #[.func (.yield (w.heap.size + 1)) #[] #[]] 82)) 24 (.slice (some ⟨b, o, none⟩) (cnt * 34) cap)).alloc (.cells #[.int .i64 34] 3); simpa using this
  have b2 : Boxed W1 (W.heap.size + 1 + 1) 3 (.int .i64 34) := by
    rw [← hW1]; have := Boxed.new ((W.alloc (.cells #[.func (.yield (w.heap.size + 1)) #[] #[]] 82)).alloc (.cells #[.slice (some ⟨b, o, none⟩) (cnt * 34) cap] 24)) 3 (.int .i64 34); simpa using this
  have hBW1 : Below W.heap.size W W1 := by rw [← hW1]; exact (((Below.refl _ _).alloc (Nat.le_refl _) _).alloc (by simp) _).alloc (by simp; omega) _
  have rW1 := bRange hBW1 (by omega) hrW
  have hI0 : J [] W1 := by
    obtain ⟨hJ, h0⟩ := HJ.out
    rw [← hW1]
    exact hJ.alloc _ (hJ.alloc _ (hJ.alloc _ h0))
  have hOI := ownFrom_up HJ.out.1 (show W.heap.size ≤ W1.heap.size by omega)
  have HI := Lib.hid (And.intro hI0 (And.intro hBW1 rW1))
  clear hW1 hBXW hrW rW1 hI0 hBW1
  refine wpIn_rangeFunc_ownG rfl (by omega) (gf := 39) (lb := #[.pointer (some ⟨W.heap.size + 1, 0, none⟩), .pointer (some ⟨W.heap.size + 1 + 1, 0, none⟩)]) rfl trivial (enters_of Try.func39 (by kernel_rfl) rfl)
    (chunk_stops (W.heap.size + 1) (W.heap.size + 1 + 1) b o (cnt * 34) cap 34 cnt (by omega) (by omega) (fun k => by omega) hcap (by omega) W1 (by omega) (by omega) b1.cell b2.cell) (fun h k => h.trans k) (fun W l o o' hl h a c => Two.obj (w := W1) (by omega) (by omega) W l o o' hl h a c) (Below.refl _ _) (fun _ => rfl)
    (fun (pre : List (Fin cnt)) V => J pre V ∧ But (w.heap.size + 5) (fun k => k = sb ∨ k = w.heap.size + 1) W1 V)
    (fun _ _ _ => False)
    (hOI.and (But.own (a := W1) (n := w.heap.size + 5) (X := fun k => k = sb ∨ k = w.heap.size + 1) (by omega) (by omega)))
    (fun _ _ _ _ _ hs _ _ => hs)
    ⟨HI.out.1, But.refl _ _ _⟩
    ?a1 ?assign ?body ?done ?stop
  case assign =>
    intro l0 x V K hK
    gi_wp2
    exact hK
  case stop => exact fun D c pre V _ _ h _ => h.elim
  case done =>
    rintro D ys V hD rfl ⟨hJV, hB⟩ hK
    have HJV := Lib.hid hJV
    have HK := Lib.hid hK
    clear hJV hK hB
    gi_wp2
    refine ⟨by simp, .inl ⟨_, _, rfl, run_takeDeferred HK.out, ?_⟩⟩
    exact ⟨_, results_none rfl _ _ _, ⟨_, rfl⟩, _, rfl, HJ.out.1.putObj _ HJV.out (by omega) HK.out rfl⟩
  case body =>
    rintro l1 pre x V ⟨hJV, hB⟩ hlt
    have hcl : cl (cnt * 34) 34 x.1 = 34 := cl_full (cnt := cnt) rfl x.2
    rw [hcl]
    have hx := x.2
    have hx34 : (x.1 + 1) * 34 ≤ cnt * 34 := Nat.mul_le_mul_right _ hx
    have hrV := hB.range (k := b) (by omega) (by omega) HI.out.2.2
    have bYV := hB.boxed (k := W.heap.size) (by omega) (by omega) bY
    have hok := entE_ok hl hx
    have hzV : w.heap.size + 5 ≤ V.heap.size := by have := hB.size; omega
    have r1 := range_cut hrV (x.1 * 34) 34
    rw [show ((bvs l).drop (x.1 * 34)).take 34 = bvs ((l.drop (x.1 * 34)).take 34) from by simp [bvs, List.map_take, List.map_drop]] at r1
    have hck : ((l.drop (x.1 * 34)).take 34).length = 34 := by rw [List.length_take, List.length_drop, hl]; omega
    have r2 := range_cut r1 2 32
    rw [show ((bvs ((l.drop (x.1 * 34)).take 34)).drop 2).take 32 = bvs (entE l x.1).key from by
      show _ = bvs ((l.drop (x.1 * 34 + 2)).take 32)
      rw [← List.drop_drop]
      simp [bvs, List.map_take, List.map_drop, List.drop_take, List.take_take]] at r2
    have hnum : ((n16 ((l.drop (x.1 * 34)).take 34) 0 : Nat) : Int) = (entE l x.1).num := by
      show _ = ((n16 l (x.1 * 34) : Nat) : Int)
      unfold n16 at8
      rw [List.getElem?_take, List.getElem?_take, List.getElem?_drop, List.getElem?_drop]
      rfl
    obtain ⟨q, hq⟩ : ∃ q, o + x.1 * 34 = q := ⟨_, rfl⟩
    rw [hq] at r1 r2 ⊢
    have hY2 : ∀ k, YieldAt Fence.wide 9 Try.prog (w.heap.size + 1) #[lev (entE l x.1)] (V.drew.drewN k) fun e V' => e = .returned (.bool true) ∧ J (pre ++ [x]) V' ∧ But (w.heap.size + 5) (fun k => k = sb ∨ k = w.heap.size + 1) (V.drew.drewN k) V' ∧ KeepsFrom W.heap.size (V.drew.drewN k) V' := fun k =>
      yieldAt_any rfl (HY.out pre x _ (HJ.out.1 _ _ _ none (HJ.out.1 _ _ _ none hJV (grown_drew0 _ _) (fun r e => by cases e)) (grown_drewN _ k none) (fun r e => by cases e)) hlt hzV)
    have hbt := built_le (entE l x.1).num hok.key
    have ht := fun (X : World) (hX : X.rangeAt b q (bvs ((l.drop (x.1 * 34)).take 34))) => two_any (A := some ⟨b, q, none⟩) (n := 34) (c := 34) (B := V.heap.size) X ⟨by rw [bvs_len, hck], fun _ => ⟨b, q, rfl, by omega, hX⟩⟩ (by omega)
    rw [hnum] at ht
    have hkl := hok.key
    have HB := Lib.hid (And.intro hB (And.intro hJV hlt))
    unfold lev at hY2
    obtain ⟨E, hE⟩ : ∃ e, entE l x.1 = e := ⟨_, rfl⟩
    rw [hE] at hY2 hbt ht hkl r2
    have hcE : (LE.mk E.num E.key).cells = E.cells := rfl
    rw [hcE] at hbt
    generalize (l.drop (x.1 * 34)).take 34 = ck at *
    have HY2 := Lib.hid hY2
    clear hB hJV hlt hY2 hnum hck hrV hx34 hE hcE hok hcl hq
    have c2 := bYV.cell
    have iK : (Try.prog.info? 41).map (·.size) = some (bvs E.key).length := by rw [bvs_len, hkl]; kernel_rfl
    have ha1 := fun (w : World) (a : Addr) (n c : Nat) (h : 32 ≤ n) => run_arrayAt (P := Try.prog) Try.underlying41 a n c h w
    have hmx : Try.prog.follows .mixedOrders = true := by kernel_rfl
    let S : World → Prop := fun w' => w'.cell? ⟨W.heap.size, 0, none⟩ = some (.func (.yield (w.heap.size + 1)) #[] #[]) ∧ w'.rangeAt b q (bvs ck) ∧ w'.rangeAt b (q + 2) (bvs E.key)
    have hSd : ∀ k, S (V.drew.drewN k) := fun k => ⟨c2, r1, r2⟩
    have hS0 : S V.drew := ⟨c2, r1, r2⟩
    clear c2 r1 r2 bYV
    gi_wp2
    refine round_heldIn S rfl hmx (by kernel_rfl) ?_
    refine wpAnyInH_take (i := 0) (oi := ?oi_245) (v := ?v_245) ?hro_245 ?ho_245 ?h1_245 ?h2_245 ?h3_245 ?hq_245 ?hw_245 ?hy_245 ?hab_245 ?hs_245 ?rest_245; (case hro_245 => rfl); (case h2_245 => kernel_rfl); (case h3_245 => kernel_rfl); (case ho_245 => (simp only [List.getElem?_toArray, List.getElem?_cons_zero, List.getElem?_cons_succ]; rfl)); (case h1_245 => kernel_rfl); (case hq_245 => exact fun _ _ _ h => h); (case hw_245 => rfl); (case hy_245 => (intro w' hSw; (try simp only [S] at hSw); go_simp; (try with_reducible rfl))); (case hab_245 => exact fun _ => rfl); (case hs_245 => assumption); (try simp only [Act.put, List.setIfInBounds_toArray, List.set_cons_zero, List.set_cons_succ])
    refine wpAnyInH_take (i := 1) (oi := ?oi_246) (v := ?v_246) ?hro_246 ?ho_246 ?h1_246 ?h2_246 ?h3_246 ?hq_246 ?hw_246 ?hy_246 ?hab_246 ?hs_246 ?rest_246; (case hro_246 => rfl); (case h2_246 => kernel_rfl); (case h3_246 => kernel_rfl); (case ho_246 => (simp only [List.getElem?_toArray, List.getElem?_cons_zero, List.getElem?_cons_succ]; rfl)); (case h1_246 => kernel_rfl); (case hq_246 => exact fun _ _ _ h => h); (case hw_246 => rfl); (case hy_246 => (intro w' hSw; (try simp only [S] at hSw); go_simp; (try with_reducible rfl))); (case hab_246 => exact fun _ => rfl); (case hs_246 => assumption); (try simp only [Act.put, List.setIfInBounds_toArray, List.set_cons_zero, List.set_cons_succ])
    refine wpAnyInH_take (i := 3) (oi := ?oi_247) (v := ?v_247) ?hro_247 ?ho_247 ?h1_247 ?h2_247 ?h3_247 ?hq_247 ?hw_247 ?hy_247 ?hab_247 ?hs_247 ?rest_247; (case hro_247 => rfl); (case h2_247 => kernel_rfl); (case h3_247 => kernel_rfl); (case ho_247 => (simp only [List.getElem?_toArray, List.getElem?_cons_zero, List.getElem?_cons_succ]; rfl)); (case h1_247 => kernel_rfl); (case hq_247 => exact fun _ _ _ h => h); (case hw_247 => rfl); (case hy_247 => (intro w' hSw; (try simp only [S] at hSw); go_simp; (try with_reducible rfl))); (case hab_247 => exact fun _ => rfl); (case hs_247 => assumption); (try simp only [Act.put, List.setIfInBounds_toArray, List.set_cons_zero, List.set_cons_succ])
    refine wpAnyInH_take (i := 4) (oi := ?oi_248) (v := ?v_248) ?hro_248 ?ho_248 ?h1_248 ?h2_248 ?h3_248 ?hq_248 ?hw_248 ?hy_248 ?hab_248 ?hs_248 ?rest_248; (case hro_248 => rfl); (case h2_248 => kernel_rfl); (case h3_248 => kernel_rfl); (case ho_248 => (simp only [List.getElem?_toArray, List.getElem?_cons_zero, List.getElem?_cons_succ]; rfl)); (case h1_248 => kernel_rfl); (case hq_248 => exact fun _ _ _ h => h); (case hw_248 => rfl); (case hy_248 => (intro w' hSw; (try simp only [S] at hSw); go_simp; (try with_reducible rfl))); (case hab_248 => exact fun _ => rfl); (case hs_248 => assumption); (try simp only [Act.put, List.setIfInBounds_toArray, List.set_cons_zero, List.set_cons_succ])
    refine wpAnyInH_take (i := 5) (oi := ?oi_249) (v := ?v_249) ?hro_249 ?ho_249 ?h1_249 ?h2_249 ?h3_249 ?hq_249 ?hw_249 ?hy_249 ?hab_249 ?hs_249 ?rest_249; (case hro_249 => rfl); (case h2_249 => kernel_rfl); (case h3_249 => kernel_rfl); (case ho_249 => (simp only [List.getElem?_toArray, List.getElem?_cons_zero, List.getElem?_cons_succ]; rfl)); (case h1_249 => kernel_rfl); (case hq_249 => exact fun _ _ _ h => h); (case hw_249 => rfl); (case hy_249 => (intro w' hSw; (try simp only [S] at hSw); go_simp; (try with_reducible rfl))); (case hab_249 => exact fun _ => rfl); (case hs_249 => assumption); (try simp only [Act.put, List.setIfInBounds_toArray, List.set_cons_zero, List.set_cons_succ])
    refine wpAnyInH_take (i := 6) (oi := ?oi_251) (v := ?v_251) ?hro_251 ?ho_251 ?h1_251 ?h2_251 ?h3_251 ?hq_251 ?hw_251 ?hy_251 ?hab_251 ?hs_251 ?rest_251; (case hro_251 => rfl); (case h2_251 => kernel_rfl); (case h3_251 => kernel_rfl); (case ho_251 => (simp only [List.getElem?_toArray, List.getElem?_cons_zero, List.getElem?_cons_succ]; rfl)); (case h1_251 => kernel_rfl); (case hq_251 => exact fun _ _ _ h => h); (case hw_251 => rfl); (case hy_251 => (intro w' hSw; refine exec_load_row (x := .tmp 12) ?_ ?_ hSw.2.2 Try.underlying41 ?_ iK <;> rfl)); (case hab_251 => exact fun _ => rfl); (case hs_251 => assumption); (try simp only [Act.put, List.setIfInBounds_toArray, List.set_cons_zero, List.set_cons_succ])
    refine wpAnyInH_ready (rs := [2]) (by kernel_rfl) (by simp) (AllReadyInH.cons (o := ?oo2_253) ?hoo2_253 (fun K hK => ?steponly253) AllReadyInH.nil); (case hoo2_253 => (simp only [List.getElem?_toArray, List.getElem?_cons_zero, List.getElem?_cons_succ]; rfl))
    go_simp
    refine ⟨trivial, ?_⟩
    refine (callsIn_wide.2 (ht _ hS0.2.1)).mono ?_
    rintro e w2 ⟨rfl, k, hk⟩
    have hS2 : S w2 := by rw [hk]; exact hSd k
    obtain ⟨fn, tmps, assign, body, hy, hR⟩ : YieldAt Fence.wide 8 Try.prog (w.heap.size + 1) #[.agg E.cells.toArray] w2 _ := by rw [hk]; exact yieldAt_any rfl (HY2.out k)
    have hkf : KeepsFrom W1.heap.size V w2 := by rw [hk]; exact ⟨Nat.le_refl _, fun _ _ _ h _ => h⟩
    have hbu : But (w.heap.size + 5) (fun k => k = sb ∨ k = w.heap.size + 1) V w2 := by rw [hk]; exact ⟨rfl, rfl, rfl, Nat.le_refl _, fun _ _ _ => rfl⟩
    rw [← hk] at hR
    clear hk hSd
    refine hK.out _ _ hS2 (fun _ => ?_)
    clear hK K hS0 ht
    (try simp only [Act.put, List.setIfInBounds_toArray, List.set_cons_zero, List.set_cons_succ])
    refine wpAnyInH_take (i := 7) (oi := ?oi_252) (v := ?v_252) ?hro_252 ?ho_252 ?h1_252 ?h2_252 ?h3_252 ?hq_252 ?hw_252 ?hy_252 ?hab_252 ?hs_252 ?rest_252; (case hro_252 => rfl); (case h2_252 => kernel_rfl); (case h3_252 => kernel_rfl); (case ho_252 => (simp only [List.getElem?_toArray, List.getElem?_cons_zero, List.getElem?_cons_succ]; rfl)); (case h1_252 => kernel_rfl); (case hq_252 => exact fun _ _ _ h => h); (case hw_252 => rfl); (case hy_252 => (intro w' hSw; refine exec_built (t := 66) (cs := E.cells.toArray) (parts := #[(0, .tmp 9), (1, .tmp 13)]) ?_ ?_ w'; exact rfl; simp only [List.map_toArray, List.map_cons, List.map_nil]; exact hbt)); (case hab_252 => exact fun _ => rfl); (case hs_252 => assumption); (try simp only [Act.put, List.setIfInBounds_toArray, List.set_cons_zero, List.set_cons_succ])
    have HKB := Lib.hid (And.intro hkf hbu)
    clear hkf hbu
    refine wpAnyInH_ready (rs := [8]) (by kernel_rfl) (by simp) (AllReadyInH.cons (o := ?oo8_254) ?hoo8_254 (fun K hK => ?steponly254) AllReadyInH.nil); (case hoo8_254 => (simp only [List.getElem?_toArray, List.getElem?_cons_zero, List.getElem?_cons_succ]; rfl))
    go_simp
    refine RoundIn.mono hR ?_
    rintro e W3 ⟨rfl, hJ3, hb3, hk3⟩
    have hS3 : S W3 := ⟨(World.cell?_of_block (a := ⟨W.heap.size, 0, none⟩) (hb3.block W.heap.size (by omega) (by omega))).trans hS2.1, hb3.range (by omega) (by omega) hS2.2.1, hb3.range (by omega) (by omega) hS2.2.2⟩
    have HR := Lib.hid (And.intro hJ3 (And.intro hb3 hk3))
    clear hJ3 hb3 hk3 hR
    refine hK.out _ _ hS3 (fun _ => ?_)
    clear hK K
    (try simp only [Act.put, List.setIfInBounds_toArray, List.set_cons_zero, List.set_cons_succ])
    refine wpAnyInH_take (i := 9) (oi := ?oi_250) (v := ?v_250) ?hro_250 ?ho_250 ?h1_250 ?h2_250 ?h3_250 ?hq_250 ?hw_250 ?hy_250 ?hab_250 ?hs_250 ?rest_250; (case hro_250 => rfl); (case h2_250 => kernel_rfl); (case h3_250 => kernel_rfl); (case ho_250 => (simp only [List.getElem?_toArray, List.getElem?_cons_zero, List.getElem?_cons_succ]; rfl)); (case h1_250 => kernel_rfl); (case hq_250 => exact fun _ _ _ h => h); (case hw_250 => rfl); (case hy_250 => (intro w' hSw; (try simp only [S] at hSw); go_simp; (try with_reducible rfl))); (case hab_250 => exact fun _ => rfl); (case hs_250 => assumption); (try simp only [Act.put, List.setIfInBounds_toArray, List.set_cons_zero, List.set_cons_succ])
    refine wpAnyInH_done (by kernel_rfl) ?_ _
    gi_wp2
    obtain ⟨hJ3, hb3, hk3⟩ := HR.out
    obtain ⟨hkf, hbu⟩ := HKB.out
    obtain ⟨hB, hJV, hlt⟩ := HB.out
    have h1 := bY.cell
    have hbV3 := hbu.trans hb3
    exact ⟨hkf.trans (keeps_up hk3 (by omega)), Two.boxed (hB.boxed (by omega) (by omega) b1) (hB.boxed (by omega) (by omega) b2) ((hB.trans hbV3).boxed (by omega) (by omega) b1) ((hB.trans hbV3).boxed (by omega) (by omega) b2), hJ3, hB.trans hbV3⟩
end Go.Proofs.Ytjfkaebikmnnaaa
