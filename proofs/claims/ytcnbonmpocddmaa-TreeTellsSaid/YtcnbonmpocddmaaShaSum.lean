/- The walks over bytes.Clone and sha.Sum. -/
import Derived.Test.YtcnbonmpocddmaaShaBlk
namespace Go.Proofs.Ytcnbonmpocddmaa
set_option linter.unusedSimpArgs false
set_option linter.unusedVariables false
open Go.RowKit
attribute [-go_sem] Builtin.append_

theorem elemU8 : Elem Try.prog 5 1 1 := elem_of (z := .int .u8 0) (by kernel_rfl) rfl (by decide)
set_option maxHeartbeats 4000000 in
set_option maxRecDepth 100000 in
theorem clone_any {l : List UInt8} {A : Option Addr} {B c : Nat} (hl : l.length ≤ 1099511627776) (w : World) (hB : B ≤ w.heap.size) (hs : Sl w B 1 A l.length (bvs l)) :
    Calls Try.prog 30 #[.slice A l.length c] w fun e w' => ∃ A' c', e = .returned (.slice A' l.length c') ∧ w'.ownsRow w.heap.size 5 1 (.slice A' l.length c') l.length (bvs l) ∧ Below w.heap.size w w' := by
  rcases A with _ | ad
  · have h0 : l.length = 0 := by
      rcases Nat.eq_zero_or_pos l.length with h | h
      · exact h
      · obtain ⟨b, o, h, _⟩ := hs.at_ h
        cases h
    obtain rfl : l = [] := List.eq_nil_of_length_eq_zero h0
    have he : ∀ w : World, (binOp .eql 23 (.slice none 0 c) (.slice none 0 0)).run Try.prog w = .ok (.bool true) w := fun _ => rfl
    go_enter Try.func30, Try.ntmps30
    go_wp2_with fail
    go_ret
    exact ⟨none, 0, rfl, World.ownsRow_nil _ _ _ _, Below.refl _ _⟩
  · have he : ∀ w : World, (binOp .eql 23 (.slice (some ad) l.length c) (.slice none 0 0)).run Try.prog w = .ok (.bool false) w := fun _ => rfl
    go_enter Try.func30, Try.ntmps30
    go_wp2_with (at_builtin; refine wpList_app _ rfl (.tmp 5) (.tmp 6) 23 rfl Try.underlying23 elemU8 rfl (own_none' w w.heap.size _ _ (Nat.le_refl _)) rfl ((hs.mono hB).below ((Below.refl _ _).alloc (Nat.le_refl _) _)) (oneCell_bvs _) (by simp only [maxLen]; omega) (by omega) (by simp) ?_; intro A2 c2 w2 hown2 hg2 hb2 hat2)
    simp only [Nat.zero_add, List.nil_append] at hown2 ⊢
    go_ret
    exact ⟨A2, c2, rfl, hown2, ((Below.refl _ w).alloc (Nat.le_refl _) _).trans hb2⟩
/-! ### the padding -/
theorem d32Z : ZeroIs Try.prog 40 (bvs (zs 32)).toArray := by unfold ZeroIs; kernel_rfl
theorem d32_size : (Try.prog.info? 40).map (·.size) = some 32 := by kernel_rfl
theorem d32_info {l : List UInt8} (h : l.length = 32) : (Try.prog.info? 40).map (·.size) = some (bvs l).toArray.size := by rw [List.size_toArray, bvs_len, h]; exact d32_size
def padTo (l : List UInt8) (k : Nat) : List UInt8 := l ++ [128] ++ zs k
theorem padTo_len (l : List UInt8) (k : Nat) : (padTo l k).length = l.length + 1 + k := by simp [padTo, zs]; omega
theorem padTo_succ (l : List UInt8) (k : Nat) : padTo l (k + 1) = padTo l k ++ [0] := by
  unfold padTo zs
  rw [List.replicate_succ', List.append_assoc, List.append_assoc, List.append_assoc]
theorem bvs_one (b : UInt8) : bvs [b] = [.int .u8 (b.toNat : Int)] := rfl
def slN : Value → Nat
  | .slice _ n _ => n
  | _ => 0
def padN (l : List UInt8) : Nat := (119 - l.length % 64) % 64
theorem padded_eq (l : List UInt8) : padded l = padTo l (padN l) ++ lenTo l.length 8 := rfl
theorem u8_div (a m : Nat) : bvs [u8 ((a / 2 ^ m : Nat) : Int)] = [.int .u8 ((a : Int) / 2 ^ m % 256)] := by
  have : ((a / 2 ^ m : Nat) : Int) = (a : Int) / 2 ^ m := by rw [Int.natCast_ediv, Int.natCast_pow]; rfl
  rw [← this]
  simp only [bvs, List.map_cons, List.map_nil, bv_u8]
theorem step_store_row {P : Program} {ops : Array Oper} {o : Oper} {a : Act} {w : World} {K : Act → World → Prop} {Q : Exit → Act → World → Prop} {E : Prop} (hgd : o.guard = none) (ty : TypeId) (x y : Operand) (ho : o.op = .store ty x y)
    (g : Nat) (cells : Array Value) (hx : a.eval x = .pointer (some ⟨g, 0, none⟩)) (hy : a.eval y = .agg cells)
    (t : TypeId) (old : Array Value) (hg : w.heap[g]? = some (.cells old t (0, 0))) (hi : (P.info? ty).map (·.size) = some cells.size)
    (hold : old.size = cells.size) (h1 : cells.all (·.oneCell') = true)
    (h : K (a.put o.dst undef) (w.setRow g cells)) : if Region.wanted o (yielded ops a.tmps) = true then Oper.wp P o a w K Q else E := by
  have hw : Region.wanted o (yielded ops a.tmps) = true := by simp [Region.wanted, hgd]
  rw [if_pos hw]
  exact wp_store_row ty x y ho g cells hx hy t old hg hi hold h1 h
theorem step_load_row {P : Program} {ops : Array Oper} {o : Oper} {a : Act} {w : World} {K : Act → World → Prop} {Q : Exit → Act → World → Prop} {E : Prop} (hgd : o.guard = none) (ty : TypeId) (x : Operand) (ho : o.op = .load ty x)
    (g : Nat) (hx : a.eval x = .pointer (some ⟨g, 0, none⟩)) (t : TypeId) (cs : Array Value) (fr : Nat × Nat) (d : TypeDesc) (hg : w.heap[g]? = some (.cells cs t fr))
    (hu : P.underlying ty = some d) (hd : (match d with | .struct _ | .array _ _ => true | _ => false) = true) (hi : (P.info? ty).map (·.size) = some cs.size)
    (h : K (a.put o.dst (.agg cs)) w) : if Region.wanted o (yielded ops a.tmps) = true then Oper.wp P o a w K Q else E := by
  have hw : Region.wanted o (yielded ops a.tmps) = true := by simp [Region.wanted, hgd]
  rw [if_pos hw]
  exact wp_load_row ty x ho g hx t cs fr d hg hu hd hi h
theorem bvs_set' (l : List UInt8) (i : Nat) (b : UInt8) : (bvs l).toArray.setIfInBounds i (bv b) = (bvs (l.set i b)).toArray := by
  simp [bvs, List.map_set]
theorem bvs_at' {l : List UInt8} {i : Nat} {x : UInt8} (h : l[i]? = some x) : (bvs l).toArray[i]? = some (bv x) := by simp [bvs, h]
theorem dByte_at {D : List W32} {i k m s : Nat} {x : W32} (hx : D[i]? = some x) (hk : k < 4) (hm : 4 * i + k = m) (hs : 24 - 8 * k = s) : bv (dByte D m) = .int .u8 ((x.toNat : Int) / 2 ^ s % 256) := by
  unfold dByte wAt
  rw [show m / 4 = i from by omega, show m % 4 = k from by omega, hs, hx, bv_u8, ← w_shr]; rfl
theorem digZ_none (D : List W32) : digZ D 0 = zs 32 := rfl
theorem digZ_end (D : List W32) : digZ D 32 = digTo D 32 := by
  unfold digZ zs
  rw [Nat.sub_self, List.replicate_zero, List.append_nil]
theorem bvs_chunk (p : List UInt8) (i : Nat) : bvs (chunkOf p i) = ((bvs p).drop (64 * i)).take 64 := by simp [bvs, chunkOf, List.map_take, List.map_drop]
theorem cells_range {w : World} {g : Nat} {l : List Value} {t : TypeId} (h : w.heap[g]? = some (.cells l.toArray t)) : w.rangeAt g 0 l := fun j v hj => by rw [Nat.zero_add]; exact blk_cell h (by simpa using hj)
theorem w8_info' {l : List W32} (h : l.length = 8) : (Try.prog.info? 60).map (·.size) = some (wvs l).length := by rw [wvs_len, h]; exact w8_size
theorem shaTo_len (p : List UInt8) (i : Nat) : (shaTo p i).list.length = 8 := St.list_len _
set_option maxHeartbeats 4000000 in
set_option maxRecDepth 100000 in
theorem sum_any {l : List UInt8} {A : Option Addr} {B c : Nat} (hl : l.length ≤ 1099511627776) (w : World) (hB : B ≤ w.heap.size) (hs : Sl w B 1 A l.length (bvs l)) :
    Calls Try.prog 25 #[.slice A l.length c] w (Ret w (.agg (bvs (sha l)).toArray)) := by
  have hcl := fun W (h1 : B ≤ W.heap.size) h => clone_any (A := A) (c := c) hl W h1 h
  obtain ⟨n8, hn8⟩ : ∃ n : Nat, 8 * l.length = n := ⟨_, rfl⟩
  have w8 : (l.length : Int) * 8 = (n8 : Int) := by omega
  have w80 : IntKind.u64.wrap (l.length : Int) = (l.length : Int) := by rw [IntKind.wrap_u64]; omega
  have w81 : IntKind.u64.wrap (n8 : Int) = (n8 : Int) := by rw [IntKind.wrap_u64]; omega
  go_enter Try.func25, Try.ntmps25
  obtain ⟨z32, hz⟩ : ∃ z, zs 32 = z := ⟨_, rfl⟩
  have hzl : z32.length = 32 := by rw [← hz]; rfl
  have hzZ := d32Z
  rw [hz] at hzZ
  go_wp2_with (first
    | (refine wpList_new rfl hzZ rfl ?_)
    | (go_at_call 30; refine (hcl _ (by simp; omega) (hs.below (((Below.refl _ _).alloc (Nat.le_refl _) _).mono hB))).mono ?_; rintro e w1 ⟨A1, c1, rfl, hown, hb1⟩)
    | (at_builtin; refine wpList_app _ rfl (.tmp 16) (.tmp 17) 23 rfl Try.underlying23 elemU8 rfl (hown.alloc _) rfl (Sl.new (n := 1) (heap_alloc_new _ _) rfl) (by simp [Value.oneCell']) (by simp only [maxLen]; omega) (by omega) (by have := hb1.size; simp at this ⊢; omega) ?_; intro A2 c2 w2 hown2 hg2 hb2 hat2)
    | fail)
  have hb12 : Below (w.heap.size + 1) (w.alloc (.cells (bvs z32).toArray 40)) w2 := (hb1.mono (by simp)).trans ((((Below.refl _ w1).alloc (by have := hb1.size; simp at this; omega) _)).trans (hb2.mono (by simp)))
  have a0 : w2.heap[w.heap.size]? = some (.cells (bvs z32).toArray 40) := bBlk hb12 (Nat.lt_succ_self _) (heap_alloc_new _ _)
  have hB2 : Below w.heap.size w w2 := ((Below.refl _ w).alloc (Nat.le_refl _) _).trans (hb12.mono (by simp))
  have hown3 : w2.ownsRow (w.heap.size + 1) 5 1 (.slice A2 (l.length + 1) c2) (l.length + 1 + 0) (bvs (padTo l 0)) := by
    have e : bvs (padTo l 0) = bvs l ++ [.int .u8 128] := by simp [padTo, zs, bvs_append]; rfl
    rw [e]
    exact own_base hown2 (by simp)
  have hz2 : w.heap.size < w2.heap.size := (Array.getElem?_eq_some_iff.1 a0).1
  clear hown hown2 hg2 hb2 hat2 hb1 hb12 hcl hs
  go_loopw [0] (fun v wr => ∃ k : Nat, k ≤ padN l ∧ wr.ownsRow (w.heap.size + 1) 5 1 v (l.length + 1 + k) (bvs (padTo l k)) ∧ Below (w.heap.size + 1) w2 wr) (fun v _ => padN l + l.length + 1 - slN v)
  case atStart => exact ⟨0, by omega, hown3, Below.refl _ _⟩
  case round =>
    clear hown3
    obtain ⟨k, hk, hown, hb⟩ := hrel
    obtain ⟨A3, c3, rfl, hc3, hcm3⟩ := own_form hown
    have hzr := hb.size
    by_cases hlt : k < padN l
    · obtain ⟨n, hn⟩ : ∃ n, l.length + 1 + k = n := ⟨_, rfl⟩
      rw [hn] at hown hc3 ⊢
      have hpn : padN l < 64 := by unfold padN; omega
      have g1 : ((n : Int) % 64 != 56) = true := by unfold padN at hlt; simp; omega
      go_wp2_with (at_builtin; refine wpList_app _ rfl (.tmp 23) (.tmp 24) 23 rfl Try.underlying23 elemU8 rfl (hown.alloc _) rfl (Sl.new (n := 1) (heap_alloc_new _ _) rfl) (by simp [Value.oneCell']) (by simp only [maxLen]; omega) (by omega) (by simp; omega) ?_; intro A4 c4 w4 hown4 hg4 hb4 hat4)
      go_roundw
      case rel =>
        refine ⟨k + 1, by omega, ?_, hb.trans (((Below.refl _ wr).alloc (by omega) _).trans hb4)⟩
        rw [padTo_succ, bvs_append, show l.length + 1 + (k + 1) = n + 1 from by omega]
        exact hown4
      case measure => simp only [slN]; omega
    · obtain rfl : k = padN l := by omega
      have hpn : padN l < 64 := by unfold padN; omega
      obtain ⟨N, hN⟩ : ∃ n, l.length + 1 + padN l = n := ⟨_, rfl⟩
      have g1 : ((N : Int) % 64 != 56) = false := by
        have : (l.length + 1 + padN l) % 64 = 56 := by unfold padN; omega
        simp; omega
      rw [hN] at hown hc3 ⊢
      obtain ⟨PT, hPT⟩ : ∃ n, padTo l (padN l) = n := ⟨_, rfl⟩
      have HP : Hid (padded l = PT ++ lenTo l.length 8) := Lib.hid (by rw [padded_eq, hPT])
      have hPl : PT.length = N := by rw [← hPT, padTo_len, hN]
      rw [hPT] at hown
      have hown0 : wr.ownsRow (w.heap.size + 1) 5 1 (.slice A3 N c3) (N + 0) (bvs (PT ++ lenTo l.length 0)) := by
        have e : PT ++ lenTo l.length 0 = PT := by simp [lenTo]
        rw [e]; exact hown
      clear hPT hown
      go_wp2_with fail
      rename World => Wo
      go_loopw [0, 26] (fun v i wq => ∃ k : Nat, k ≤ 8 ∧ i = .int .i64 k ∧ wq.ownsRow (w.heap.size + 1) 5 1 v (N + k) (bvs (PT ++ lenTo l.length k)) ∧ Below (w.heap.size + 1) Wo wq) (fun _ i _ => 8 - (intOf i).toNat)
      case atStart => exact ⟨0, by omega, rfl, hown0, Below.refl _ _⟩
      case round =>
        clear hown0
        obtain ⟨k, hk, rfl, hown, hbq⟩ := hrel
        obtain ⟨A5, c5, rfl, hc5, hcm5⟩ := own_form hown
        have hzq := hbq.size
        by_cases hlt : k < 8
        · have g3 : (k : Int) < 8 := by omega
          obtain ⟨n, hn⟩ : ∃ n, N + k = n := ⟨_, rfl⟩
          rw [hn] at hown hc5 ⊢
          obtain ⟨m, hm, lm⟩ : ∃ m : Nat, 56 - 8 * k = m ∧ (m : Int) < 64 := ⟨_, rfl, by omega⟩
          have wm0 : IntKind.i64.wrap (8 * (k : Int)) = 8 * (k : Int) := wrap_small _ (by omega) (by omega)
          have wm : IntKind.i64.wrap (56 - 8 * (k : Int)) = (m : Int) := by rw [wrap_small _ (by omega) (by omega)]; omega
          go_wp2_with (at_builtin; refine wpList_app _ rfl (.tmp 29) (.tmp 36) 23 rfl Try.underlying23 elemU8 rfl (hown.alloc _) rfl (Sl.new (n := 1) (heap_alloc_new _ _) rfl) (by simp [Value.oneCell']) (by simp only [maxLen]; omega) (by omega) (by simp; omega) ?_; intro A4 c4 w4 hown4 hg4 hb4 hat4)
          go_roundw
          case rel =>
            refine ⟨k + 1, by omega, by go_num, ?_, hbq.trans (((Below.refl _ _).alloc (by omega) _).trans hb4)⟩
            rw [lenTo_succ, ← List.append_assoc, bvs_append, hn8, hm, u8_div, show N + (k + 1) = n + 1 from by omega]
            exact hown4
          case measure => simp [intOf]; omega
        · obtain rfl : k = 8 := by omega
          have g3 : ¬ ((8 : Nat) : Int) < 8 := by omega
          rw [← HP.out] at hown
          have hPl8 : (padded l).length = N + 8 := by rw [HP.out, List.length_append, hPl, lenTo_len]
          have hRV : Hid (sha l = digTo (shaTo (padded l) ((padded l).length / 64)).list 32) := Lib.hid rfl
          obtain ⟨PL, hPL⟩ : ∃ p, padded l = p := ⟨_, rfl⟩
          rw [hPL] at hown hPl8 hRV
          have hm64 : PL.length % 64 = 0 := by rw [← hPL]; exact (padded_len l).1
          have hB5 : Below w.heap.size w wr := hB2.trans ((hb.mono (by simp)).trans (hbq.mono (by simp)))
          have b0 := bBlk (hb.trans hbq) (Nat.lt_succ_self _) a0
          clear HP hPL hPl a0 hbq hb hzq
          obtain ⟨M, hM⟩ : ∃ m, PL.length = m := ⟨_, rfl⟩
          rw [← hPl8, hM] at hown hc5 ⊢
          rw [hM] at hPl8 hm64
          have hst := fun W => start_any W
          have htn := fun (s : St) (p : List UInt8) (hp : p.length = 64) (B c : Nat) A h1 h2 W h3 h4 => turn_any s (p := p) hp (B := B) (c := c) (A := A) h1 h2 W h3 h4
          unfold wsv at hst htn
          have hs0 : s00.list.length = 8 := St.list_len _
          have hz8 : z8.length = 8 := rfl
          obtain ⟨S0, hS0⟩ : ∃ l, s00.list = l := ⟨_, rfl⟩
          rw [hS0] at hst hs0
          go_upto_region 11 with (first
            | (go_at_call 31; refine (hst _).mono ?_; rintro e w6 ⟨rfl, hb6⟩)
            | (refine wpList_new rfl w8Z rfl ?_)
            | (refine wpList_store_row rfl 60 (.tmp 5) (.tmp 39) rfl _ (wvs S0).toArray rfl rfl _ (wvs z8).toArray (heap_alloc_new _ _) (w8_info hs0) (ws_sizes hz8 hs0) (all_oneCell_toArray (oneCell_wvs _)) ?_)
            | fail)
          generalize hX : World.setRow _ _ _ = X
          have b1 : X.heap[w6.heap.size]? = some (.cells (wvs S0).toArray 60) := by rw [← hX]; exact setRow_heap _ _ _ _ _ _ (heap_alloc_new _ _)
          have hbX : Below w6.heap.size w6 X := by rw [← hX]; exact bSetRow ((Below.refl _ _).alloc (Nat.le_refl _) _) (Nat.le_refl _) _
          have hz6 : w6.heap.size < X.heap.size := (Array.getElem?_eq_some_iff.1 b1).1
          have hz60 := hb6.size
          have hzw := hB5.size
          have hbr6 : Below wr.heap.size wr X := hb6.trans (hbX.mono hz60)
          have hz0w : w.heap.size < wr.heap.size := (Array.getElem?_eq_some_iff.1 b0).1
          replace b0 := bBlk hbr6 hz0w b0
          have hown6 := own_below hown hbr6
          have hB6 := hB5.trans (hbr6.mono hzw)
          have hSl := Sl.of_own hown
          have hMp : 0 < M := by omega
          obtain ⟨r, ro, rfl, hrb, hrr⟩ := hSl.at_ hMp
          replace hrr := bRange hbr6 hrb hrr
          clear hX hbX hbr6 hb6 hst hown hown6 hSl hB5
          rw [← hS0] at b1
          have b1' : X.heap[w6.heap.size]? = some (.cells (wvs (shaTo PL 0).list).toArray 60) := b1
          obtain ⟨g, hg⟩ : ∃ g, w6.heap.size = g := ⟨_, rfl⟩
          rw [hg] at b1' hz6 hz60 ⊢
          clear b1 hS0 hg
          go_wp2_with fail
          go_loopw [6] (fun v wr => ∃ i : Nat, v = .int .i64 (64 * (i : Int)) ∧ i ≤ M / 64 ∧ wr.heap[g]? = some (.cells (wvs (shaTo PL i).list).toArray 60) ∧ But X.heap.size (· = g) X wr) (fun v _ => M - (intOf v).toNat)
          case atStart => exact ⟨0, rfl, by omega, b1', But.refl _ _ _⟩
          case round =>
            clear b1'
            obtain ⟨i, rfl, hi, bg, hbt⟩ := hrel
            by_cases hlt : 64 * i < M
            · obtain ⟨q, hq⟩ : ∃ q, 64 * i = q := ⟨_, rfl⟩
              have hqc : 64 * (i : Int) = (q : Int) := by omega
              have g4 : (q : Int) < M := by omega
              rw [hqc]
              have wq64 : IntKind.i64.wrap ((q : Int) + 64) = (q : Int) + 64 := wrap_small _ (by omega) (by simp only [maxLen] at hcm5; omega)
              have HT : Hid (shaTo PL (i + 1) = comp (shaTo PL i) (chunkOf PL i)) := Lib.hid rfl
              have hol := shaTo_len PL i
              obtain ⟨SV, hSV⟩ : ∃ v, shaTo PL i = v := ⟨_, rfl⟩
              rw [hSV] at HT bg hol
              have hcl := chunkOf_len (p := PL) (i := i) (by omega)
              have hch : Sl wr X.heap.size 1 (some ⟨r, ro + q, none⟩) 64 (bvs (chunkOf PL i)) := by
                refine ⟨by rw [bvs_len, hcl], fun _ => ⟨r, ro + q, rfl, by omega, ?_⟩⟩
                rw [bvs_chunk, hq]
                exact range_cut (hbt.range (by omega) (by omega) hrr) _ _
              let S : World → Prop := fun _ => True
              have hS0 : S wr.drew := trivial
              go_upto_region 14 with (fail)
              refine wp_region_held (S := S) (by kernel_rfl) ?_
              change wpAnyH _ _ _ _ S _ _ _ wr.drew
              have hq1 : 0 ≤ (q : Int) + 64 ∧ (q : Int) + 64 ≤ c5 := by omega
              have hq2 : ((q : Int) + 64).toNat = q + 64 := by omega
              have hq3 : ¬ c5 = q := by omega
              refine wpAnyH_take (i := 1) (oi := ?oi_108) (v := ?v_108) ?ho_108 ?h1_108 ?h2_108 ?h3_108 ?hq_108 (Or.inl ⟨?hw_108, ?hy_108⟩) ?hs_108 ?rest_108; (case h2_108 => kernel_rfl); (case h3_108 => kernel_rfl); (case ho_108 => (simp only [List.getElem?_toArray, List.getElem?_cons_zero, List.getElem?_cons_succ]; rfl)); (case h1_108 => kernel_rfl); (case hq_108 => exact fun _ _ _ h => h); (case hw_108 => rfl); (case hy_108 => (intro w' hSw; (try simp only [S] at hSw); go_simp; (try with_reducible rfl))); (case hs_108 => assumption); (try simp only [Act.put, List.setIfInBounds_toArray, List.set_cons_zero, List.set_cons_succ])
              refine wpAnyH_take (i := 2) (oi := ?oi_109) (v := ?v_109) ?ho_109 ?h1_109 ?h2_109 ?h3_109 ?hq_109 (Or.inl ⟨?hw_109, ?hy_109⟩) ?hs_109 ?rest_109; (case h2_109 => kernel_rfl); (case h3_109 => kernel_rfl); (case ho_109 => (simp only [List.getElem?_toArray, List.getElem?_cons_zero, List.getElem?_cons_succ]; rfl)); (case h1_109 => kernel_rfl); (case hq_109 => exact fun _ _ _ h => h); (case hw_109 => rfl); (case hy_109 => (intro w' hSw; (try simp only [S] at hSw); go_simp; (try with_reducible rfl))); (case hs_109 => assumption); (try simp only [Act.put, List.setIfInBounds_toArray, List.set_cons_zero, List.set_cons_succ])
              refine wpAnyH_take (i := 3) (oi := ?oi_110) (v := ?v_110) ?ho_110 ?h1_110 ?h2_110 ?h3_110 ?hq_110 (Or.inl ⟨?hw_110, ?hy_110⟩) ?hs_110 ?rest_110; (case h2_110 => kernel_rfl); (case h3_110 => kernel_rfl); (case ho_110 => (simp only [List.getElem?_toArray, List.getElem?_cons_zero, List.getElem?_cons_succ]; rfl)); (case h1_110 => kernel_rfl); (case hq_110 => exact fun _ _ _ h => h); (case hw_110 => rfl); (case hy_110 => (intro w' hSw; (try simp only [S] at hSw); go_simp; (try with_reducible rfl))); (case hs_110 => assumption); (try simp only [Act.put, List.setIfInBounds_toArray, List.set_cons_zero, List.set_cons_succ])
              refine wpAnyH_take (i := 4) (oi := ?oi_111) (v := ?v_111) ?ho_111 ?h1_111 ?h2_111 ?h3_111 ?hq_111 (Or.inl ⟨?hw_111, ?hy_111⟩) ?hs_111 ?rest_111; (case h2_111 => kernel_rfl); (case h3_111 => kernel_rfl); (case ho_111 => (simp only [List.getElem?_toArray, List.getElem?_cons_zero, List.getElem?_cons_succ]; rfl)); (case h1_111 => kernel_rfl); (case hq_111 => exact fun _ _ _ h => h); (case hw_111 => rfl); (case hy_111 => (intro w' hSw; (try simp only [S] at hSw); go_simp; (try with_reducible rfl))); (case hs_111 => assumption); (try simp only [Act.put, List.setIfInBounds_toArray, List.set_cons_zero, List.set_cons_succ])
              refine wpAnyH_take (i := 5) (oi := ?oi_112) (v := ?v_112) ?ho_112 ?h1_112 ?h2_112 ?h3_112 ?hq_112 (Or.inl ⟨?hw_112, ?hy_112⟩) ?hs_112 ?rest_112; (case h2_112 => kernel_rfl); (case h3_112 => kernel_rfl); (case ho_112 => (simp only [List.getElem?_toArray, List.getElem?_cons_zero, List.getElem?_cons_succ]; rfl)); (case h1_112 => kernel_rfl); (case hq_112 => exact fun _ _ _ h => h); (case hw_112 => rfl); (case hy_112 => (intro w' hSw; go_simp; rfl)); (case hs_112 => assumption); (try simp only [Act.put, List.setIfInBounds_toArray, List.set_cons_zero, List.set_cons_succ])
              refine wpAnyH_ready (rs := [0]) (by kernel_rfl) (by simp) (AllReadyH.cons (o := ?oo0_113) ?hoo0_113 (fun K hK => ?steponly113) AllReadyH.nil); (case hoo0_113 => (simp only [List.getElem?_toArray, List.getElem?_cons_zero, List.getElem?_cons_succ]; rfl))
              refine step_load_row rfl 60 (.tmp 5) rfl g rfl _ (wvs SV.list).toArray (0, 0) _ (w := wr.drew) bg Try.underlying60 rfl (w8_info hol) ?_
              refine hK.out _ _ trivial (fun _ => ?_)
              clear hK K
              (try simp only [Act.put, List.setIfInBounds_toArray, List.set_cons_zero, List.set_cons_succ])
              refine wpAnyH_ready (rs := [6]) (by kernel_rfl) (by simp) (AllReadyH.cons (o := ?oo6_114) ?hoo6_114 (fun K hK => ?steponly114) AllReadyH.nil); (case hoo6_114 => (simp only [List.getElem?_toArray, List.getElem?_cons_zero, List.getElem?_cons_succ]; rfl))
              go_simp
              refine (htn SV (chunkOf PL i) hcl X.heap.size (c5 - q) (some ⟨r, ro + q, none⟩) (by omega) (by omega) wr.drew hbt.size hch.drew).mono ?_
              rintro e w7 ⟨rfl, hb7⟩
              have hb7' : Below wr.heap.size wr w7 := ⟨hb7.os, hb7.tape, hb7.output, hb7.size, hb7.block⟩
              have bg7 : w7.heap[g]? = some (.cells (wvs SV.list).toArray 60) := bBlk hb7' (Array.getElem?_eq_some_iff.1 bg).1 bg
              refine hK.out _ _ trivial (fun _ => ?_)
              clear hK K
              (try simp only [Act.put, List.setIfInBounds_toArray, List.set_cons_zero, List.set_cons_succ])
              refine wpAnyH_ready (rs := [7]) (by kernel_rfl) (by simp) (AllReadyH.cons (o := ?oo7_115) ?hoo7_115 (fun K hK => ?steponly115) AllReadyH.nil); (case hoo7_115 => (simp only [List.getElem?_toArray, List.getElem?_cons_zero, List.getElem?_cons_succ]; rfl))
              have hnl := St.list_len (comp SV (chunkOf PL i))
              refine step_store_row rfl 60 (.tmp 5) (.tmp 52) rfl g (wvs (comp SV (chunkOf PL i)).list).toArray rfl rfl _ (wvs SV.list).toArray bg7 (w8_info hnl) (ws_sizes hol hnl) (all_oneCell_toArray (oneCell_wvs _)) ?_
              refine hK.out _ _ trivial (fun _ => ?_)
              clear hK K
              (try simp only [Act.put, List.setIfInBounds_toArray, List.set_cons_zero, List.set_cons_succ])
              refine wpAnyH_done (by kernel_rfl) ?_ _
              generalize hY : World.setRow w7 g _ = Y
              have bgY : Y.heap[g]? = some (.cells (wvs (shaTo PL (i + 1)).list).toArray 60) := by rw [← hY, HT.out]; exact setRow_heap _ _ _ _ _ _ bg7
              have hbY : But X.heap.size (· = g) X Y := by rw [← hY]; exact (hbt.trans (but_of (hb7'.mono hbt.size))).row _
              clear hY
              go_wp2_with fail
              go_roundw
              case rel => exact ⟨i + 1, by congr 1; omega, by omega, bgY, hbY⟩
              case measure => simp [intOf]; omega
            · have hi2 : i = M / 64 := by omega
              have g4 : ¬ (64 * (i : Int)) < (M : Int) := by omega
              have hol := shaTo_len PL i
              have hRV2 : Hid (sha l = digTo (shaTo PL i).list 32) := Lib.hid (by rw [hRV.out, hM, hi2])
              obtain ⟨D, hD⟩ : ∃ d, (shaTo PL i).list = d := ⟨_, rfl⟩
              rw [hD] at hol hRV2 bg
              obtain ⟨RV, hRv⟩ : ∃ r, sha l = r := ⟨_, rfl⟩
              rw [hRv] at hRV2
              replace b0 := hbt.blk (by omega) (by omega) b0
              have hB7 := hB6.trans (hbt.below (by omega) (fun j hj => by rw [hj]; omega))
              clear hRV hD hbt htn hrr hc5
              go_upto_region 16 with (first
                | (refine wpList_new rfl hzZ rfl ?_)
                | fail)
              generalize hY : World.alloc wr _ = Y
              have bO : Y.heap[wr.heap.size]? = some (.cells (bvs (digZ D 0)).toArray 40) := by rw [← hY, digZ_none, hz]; exact heap_alloc_new _ _
              have hbY : Below wr.heap.size wr Y := by rw [← hY]; exact (Below.refl _ _).alloc (Nat.le_refl _) _
              have hzY : wr.heap.size < Y.heap.size := (Array.getElem?_eq_some_iff.1 bO).1
              have hzg : w.heap.size < wr.heap.size := (Array.getElem?_eq_some_iff.1 b0).1
              replace bg := bBlk hbY (Array.getElem?_eq_some_iff.1 bg).1 bg
              replace b0 := bBlk hbY hzg b0
              replace hB7 := hB7.trans (hbY.mono (by omega))
              clear hY hbY
              obtain ⟨go, hgo⟩ : ∃ g, wr.heap.size = g := ⟨_, rfl⟩
              rw [hgo] at bO hzY hzg ⊢
              clear hgo
              go_wp2_with (first
                | (refine wpList_load_row rfl 60 (.tmp 5) rfl _ rfl _ (wvs D).toArray (0, 0) _ bg Try.underlying60 rfl (w8_info hol) ?_)
                | fail)
              go_loopw [54] (fun v wr => ∃ i : Nat, v = .int .i64 i ∧ i ≤ 8 ∧ wr.heap[go]? = some (.cells (bvs (digZ D (4 * i))).toArray 40) ∧ But Y.heap.size (· = go) Y wr) (fun v _ => 8 - (intOf v).toNat)
              case atStart => exact ⟨0, rfl, by omega, bO, But.refl _ _ _⟩
              case round =>
                clear bO
                obtain ⟨i, rfl, hi, bO, hbt⟩ := hrel
                by_cases hlt8 : i < 8
                · have g5 : (i : Int) < 8 := by omega
                  obtain ⟨x, hx⟩ : ∃ x, D[i]? = some x := ⟨_, List.getElem?_eq_getElem (by omega)⟩
                  have wc := fun W => run_index_w (t := 60) (n := 8) Try.underlying60 hlt8 hx W
                  go_wp2_with fail
                  go_loopw [58] (fun v wr => ∃ k : Nat, v = .int .i64 k ∧ k ≤ 4 ∧ wr.heap[go]? = some (.cells (bvs (digZ D (4 * i + k))).toArray 40) ∧ But Y.heap.size (· = go) Y wr) (fun v _ => 4 - (intOf v).toNat)
                  case atStart => exact ⟨0, rfl, by omega, bO, hbt⟩
                  case round =>
                    clear bO hbt
                    obtain ⟨k, rfl, hk, bO, hbt⟩ := hrel
                    by_cases hlt4 : k < 4
                    · have g6 : (k : Int) < 4 := by omega
                      obtain ⟨m, hm, lm⟩ : ∃ m : Nat, 4 * i + k = m ∧ (m : Int) < 32 := ⟨_, rfl, by omega⟩
                      have wm0 : IntKind.i64.wrap (4 * (i : Int)) = 4 * (i : Int) := wrap_small _ (by omega) (by omega)
                      have wm : IntKind.i64.wrap (4 * (i : Int) + (k : Int)) = (m : Int) := by rw [wrap_small _ (by omega) (by omega)]; omega
                      obtain ⟨sf, hsf, lsf⟩ : ∃ m : Nat, 24 - 8 * k = m ∧ (m : Int) < 32 := ⟨_, rfl, by omega⟩
                      have ws0 : IntKind.i64.wrap (8 * (k : Int)) = 8 * (k : Int) := wrap_small _ (by omega) (by omega)
                      have ws : IntKind.i64.wrap (24 - 8 * (k : Int)) = (sf : Int) := by rw [wrap_small _ (by omega) (by omega)]; omega
                      have HV := Lib.hid (dByte_at hx hlt4 hm hsf)
                      have HS := Lib.hid (digZ_set D (j := m) (by omega))
                      have hml := digZ_len D (j := m) (by omega)
                      rw [hm] at bO
                      obtain ⟨ob, hob⟩ : ∃ b, (digZ D m)[m]? = some b := ⟨_, List.getElem?_eq_getElem (by omega)⟩
                      have c1 := blk_cell bO (bvs_at' hob)
                      have f1 := blk_frozen bO m
                      clear hx hob
                      go_wp2_with fail
                      rw [← HV.out]
                      exact ⟨⟨k + 1, by go_num, by omega, by rw [← Nat.add_assoc, hm, ← HS.out, ← bvs_set']; exact blk_set bO m _, hbt.setp m _⟩, by simp [intOf]; omega⟩
                    · obtain rfl : k = 4 := by omega
                      have g6 : ¬ ((4 : Nat) : Int) < 4 := by omega
                      go_wp2_with fail
                      go_roundw
                      case rel => exact ⟨i + 1, by go_num, by omega, bO, hbt⟩
                      case measure => simp [intOf]; omega
                · obtain rfl : i = 8 := by omega
                  have g5 : ¬ ((8 : Nat) : Int) < 8 := by omega
                  rw [show 4 * 8 = 32 from rfl, digZ_end, ← hRV2.out] at bO
                  have hRl : RV.length = 32 := by rw [← hRv, sha_len]
                  replace b0 := hbt.blk (by omega) (by omega) b0
                  have hB8 := hB7.trans (hbt.below (by omega) (fun j hj => by rw [hj]; omega))
                  clear hRV2
                  go_wp2_with (first
                    | (refine wpList_load_row rfl 40 (.tmp 7) rfl _ rfl _ (bvs RV).toArray (0, 0) _ bO Try.underlying40 rfl (d32_info hRl) ?_)
                    | (refine wpList_store_row rfl 40 (.tmp 2) (.tmp 74) rfl _ (bvs RV).toArray rfl rfl _ (bvs z32).toArray b0 (d32_info hRl) (by rw [List.size_toArray, List.size_toArray, bvs_len, bvs_len, hzl, hRl]) (all_oneCell_toArray (oneCell_bvs _)) ?_)
                    | fail)
                  generalize hX : World.setRow _ _ _ = X9
                  have b9 : X9.heap[w.heap.size]? = some (.cells (bvs RV).toArray 40) := by rw [← hX]; exact setRow_heap _ _ _ _ _ _ b0
                  have hBX : Below w.heap.size w X9 := by rw [← hX]; exact bSetRow hB8 (Nat.le_refl _) _
                  clear hX
                  have hld := run_loadVar_row (P := Try.prog) X9 _ _ 40 _ _ _ b9 Try.underlying40 rfl (d32_info hRl)
                  refine bodyPost_ret (by simp [results, Try.results25, Act.put, asAddr, Result.andThen, hld]; try rfl) rfl ?_
                  exact Ret.mk rfl hBX
end Go.Proofs.Ytcnbonmpocddmaa
