/- The walk over sha.schedule. -/
import Derived.Test.YtcnbonmpocddmaaShaRot
namespace Go.Proofs.Ytcnbonmpocddmaa
set_option linter.unusedSimpArgs false
set_option linter.unusedVariables false
open Go.RowKit

/-! ### plain -/
def schZ (p : List UInt8) (t : Nat) : List W32 := sch p t ++ List.replicate (64 - t) 0
def schP (p : List UInt8) (t k : Nat) : List W32 := sch p t ++ word p t k :: List.replicate (63 - t) 0
theorem schZ_len (p : List UInt8) {t : Nat} (h : t ≤ 64) : (schZ p t).length = 64 := by simp [schZ, sch_len]; omega
theorem schP_len (p : List UInt8) {t : Nat} (h : t < 64) (k : Nat) : (schP p t k).length = 64 := by simp [schP, sch_len]; omega
theorem schZ_none (p : List UInt8) : schZ p 0 = z64 := rfl
theorem schZ_all (p : List UInt8) : schZ p 64 = sch p 64 := by simp [schZ]
theorem schZ_cons (p : List UInt8) {t : Nat} (h : t < 64) : schZ p t = sch p t ++ 0 :: List.replicate (63 - t) 0 := by
  unfold schZ
  rw [show 64 - t = (63 - t) + 1 from by omega, List.replicate_succ]
theorem schP_none (p : List UInt8) {t : Nat} (h : t < 64) : schP p t 0 = schZ p t := by rw [schZ_cons p h]; rfl
theorem set_mid {l r : List W32} {x y : W32} {t : Nat} (h : l.length = t) : (l ++ x :: r).set t y = l ++ y :: r := by
  subst h
  rw [List.set_append, if_neg (by omega), Nat.sub_self, List.set_cons_zero]
theorem schP_set (p : List UInt8) (t k : Nat) : (schP p t k).set t (word p t (k + 1)) = schP p t (k + 1) := set_mid (sch_len p t)
theorem sch_put (p : List UInt8) (t : Nat) : sch p t ++ schNext p t (sch p t) :: List.replicate (63 - t) 0 = schZ p (t + 1) := by
  unfold schZ
  rw [sch, List.append_assoc, show 64 - (t + 1) = 63 - t from by omega]; rfl
theorem schP_all (p : List UInt8) {t : Nat} (h : t < 16) : schP p t 4 = schZ p (t + 1) := by
  rw [← sch_put]
  unfold schP schNext
  rw [if_pos h]
theorem schZ_set (p : List UInt8) {t : Nat} (h : t < 64) : (schZ p t).set t (schNext p t (sch p t)) = schZ p (t + 1) := by
  rw [schZ_cons p h, set_mid (sch_len p t), sch_put]
theorem schZ_at (p : List UInt8) {t i : Nat} (h : i < t) : (schZ p t)[i]? = some (wAt (sch p t) i) := by
  unfold schZ wAt
  rw [List.getElem?_append_left (by rw [sch_len]; exact h), List.getElem?_eq_getElem (by rw [sch_len]; exact h)]; rfl
theorem schP_at (p : List UInt8) (t k : Nat) : (schP p t k)[t]? = some (word p t k) := by
  unfold schP
  rw [List.getElem?_append_right (by rw [sch_len]; omega), sch_len, Nat.sub_self]; rfl
theorem m_of8 (b : UInt8) : (b.toNat : Int) % 4294967296 = (((BitVec.ofNat 32 b.toNat : W32).toNat : Nat) : Int) := by
  rw [BitVec.toNat_ofNat]; rfl
theorem wvs_set (l : List W32) (i : Nat) (x : W32) : (wvs l).toArray.setIfInBounds i (.int .u32 ((x.toNat : Nat) : Int)) = (wvs (l.set i x)).toArray := by
  simp [wvs, wv, List.map_set]
theorem wvs_at {l : List W32} {i : Nat} {x : W32} (h : l[i]? = some x) : (wvs l).toArray[i]? = some (.int .u32 ((x.toNat : Nat) : Int)) := by
  simp [wvs, wv, h]

theorem heap_alloc_fst (w : World) (o1 o2 : Obj) : ((w.alloc o1).alloc o2).heap[w.heap.size]? = some o1 := (Below.heap_alloc _ _ _ (by simp)).trans (heap_alloc_new _ _)
theorem turned2 (x : W32) (a b : Nat) (ha : 1 ≤ a ∧ a ≤ 31) (hb : 1 ≤ b ∧ b ≤ 31) (W : World) (g : Nat) (h : W.heap[g]? = some (.cells #[.int .i64 (a : Int), .int .i64 (b : Int)] 3)) :
    Calls Try.prog 37 #[.int .u32 (x.toNat : Int), .slice (some ⟨g, 0, none⟩) 2 2] W (fun e w' => e = .returned (.int .u32 ((ror x a ^^^ ror x b).toNat : Int)) ∧ W = w') := by
  have := turned_any (c := 2) (A := some ⟨g, 0, none⟩) x (l := [a, b]) (by simp; omega) (by simp [maxLen]) W (Sl.new (n := 2) (sz := 1) h rfl)
  rw [trns2] at this
  exact this
theorem turned3 (x : W32) (a b d : Nat) (ha : 1 ≤ a ∧ a ≤ 31) (hb : 1 ≤ b ∧ b ≤ 31) (hd : 1 ≤ d ∧ d ≤ 31) (W : World) (g : Nat) (h : W.heap[g]? = some (.cells #[.int .i64 (a : Int), .int .i64 (b : Int), .int .i64 (d : Int)] 3)) :
    Calls Try.prog 37 #[.int .u32 (x.toNat : Int), .slice (some ⟨g, 0, none⟩) 3 3] W (fun e w' => e = .returned (.int .u32 ((ror x a ^^^ ror x b ^^^ ror x d).toNat : Int)) ∧ W = w') := by
  have := turned_any (c := 3) (A := some ⟨g, 0, none⟩) x (l := [a, b, d]) (by simp; omega) (by simp [maxLen]) W (Sl.new (n := 3) (sz := 1) h rfl)
  rw [trns3] at this
  exact this
set_option maxHeartbeats 4000000 in
set_option maxRecDepth 100000 in
theorem schedule_any {p : List UInt8} (hp : p.length = 64) {B c : Nat} {A : Option Addr} (hc : 64 ≤ c) (hcm : c ≤ maxLen) (w : World) (hB0 : B ≤ w.heap.size) (hs : Sl w B 1 A 64 (bvs p)) :
    Calls Try.prog 36 #[.slice A 64 c] w (Ret w (wsv (sch p 64))) := by
  unfold wsv
  simp only [maxLen] at hcm
  go_enter Try.func36, Try.ntmps36
  go_wp2_with (first
    | (refine wpList_new rfl w64Z rfl ?_)
    | fail)
  generalize hW : World.alloc (World.alloc w _) _ = W
  have bZ : W.heap[w.heap.size]? = some (.cells (wvs z64).toArray 71) := by rw [← hW]; exact (Below.heap_alloc _ _ _ (by simp)).trans (heap_alloc_new _ _)
  have bX : W.heap[w.heap.size + 1]? = some (.cells (wvs (schZ p 0)).toArray 71) := by rw [← hW, schZ_none]; exact heap_alloc_two _ _ _
  have hB : Below w.heap.size w W := by rw [← hW]; exact ((Below.refl _ _).alloc (Nat.le_refl _) _).alloc (by simp) _
  clear hW
  go_loopw [7] (fun i wr => ∃ t : Nat, i = .int .i64 t ∧ t ≤ 64 ∧ wr.heap[w.heap.size]? = some (.cells (wvs z64).toArray 71) ∧ wr.heap[w.heap.size + 1]? = some (.cells (wvs (schZ p t)).toArray 71) ∧ Below w.heap.size w wr) (fun i _ => 64 - (intOf i).toNat)
  case atStart => exact ⟨0, rfl, by omega, bZ, bX, hB⟩
  case round =>
    clear bZ bX hB
    obtain ⟨t, rfl, ht, bZ, bX, hB⟩ := hrel
    have hz1 : w.heap.size + 1 < wr.heap.size := (Array.getElem?_eq_some_iff.1 bX).1
    by_cases hlt : t < 64
    · have g1 : (t : Int) < 64 := by omega
      by_cases h16 : t < 16
      · have g2 : ¬ (16 : Int) ≤ t := by omega
        have hs1 := (hs.mono hB0).below hB
        obtain ⟨b, o, rfl, hb, hr⟩ := hs1.at_ (by omega)
        have hsz := schP_len p hlt
        go_wp2_with fail
        rename World => Wo
        go_loopw [57] (fun j wq => ∃ k : Nat, j = .int .i64 k ∧ k ≤ 4 ∧ wq.heap[w.heap.size + 1]? = some (.cells (wvs (schP p t k)).toArray 71) ∧ But Wo.heap.size (· = w.heap.size + 1) Wo wq) (fun j _ => 4 - (intOf j).toNat)
        case atStart => exact ⟨0, rfl, by omega, by rw [schP_none p hlt]; exact bX, But.refl _ _ _⟩
        case round =>
          obtain ⟨k, rfl, hk, gX, hbt⟩ := hrel
          by_cases hk4 : k < 4
          · have g3 : (k : Int) < 4 := by omega
            obtain ⟨q, hq⟩ : ∃ q, p[4 * t + k]? = some q := ⟨_, List.getElem?_eq_getElem (by omega)⟩
            have hqc : Wo.cell? ⟨b, o + (4 * t + k), none⟩ = some (.int .u8 (q.toNat : Int)) := hr (4 * t + k) _ (by unfold bvs; rw [List.getElem?_map, hq]; rfl)
            have hqr : wr.cell? ⟨b, o + 4 * t + k, none⟩ = some (.int .u8 (q.toNat : Int)) := by
              rw [Nat.add_assoc]
              exact (World.cell?_of_block (a := ⟨b, o + (4 * t + k), none⟩) (hbt.block b (by omega) (by omega))).trans hqc
            have c1 := blk_cell gX (wvs_at (schP_at p t k))
            have f1 := blk_frozen gX t
            have HS := Lib.hid (schP_set p t k)
            have HQ := Lib.hid (show word p t (k + 1) = word p t k <<< 8 ||| BitVec.ofNat 32 q.toNat by rw [word, byteOf, hq]; rfl)
            obtain ⟨v, hv⟩ : ∃ v, word p t k = v := ⟨_, rfl⟩
            rw [hv] at HQ c1
            clear hv hqc hq hr hs
            go_wp2_with fail
            have e : bits .or .u32 ((v.toNat : Int) * 256 % 4294967296) ((q.toNat : Int) % 4294967296) = ((word p t (k + 1)).toNat : Int) := by
              rw [HQ.out, show (256 : Int) = 2 ^ 8 from rfl, m_shl, m_of8, w_or]
            rw [e]
            exact ⟨⟨k + 1, by go_num, by omega, by rw [← HS.out, ← wvs_set]; exact blk_set gX t _, hbt.setp t _⟩, by simp [intOf]; omega⟩
          · obtain rfl : k = 4 := by omega
            have bX2 := gX
            rw [schP_all p h16] at bX2
            have bZ2 := hbt.blk (by omega) (by omega) bZ
            have hB2 := hB.trans (hbt.below (by omega) (fun j hj => by rw [hj]; exact Nat.le_succ _))
            clear hs hr
            go_wp2_with fail
            go_roundw
            case rel => exact ⟨t + 1, by go_num, by omega, bZ2, bX2, hB2⟩
            case measure => simp [intOf]; omega
      · have g2 : (16 : Int) ≤ t := by omega
        have hsz := schZ_len p ht
        obtain ⟨n2, hn2, l2⟩ : ∃ n : Nat, t - 2 = n ∧ (n : Int) < 64 := ⟨_, rfl, by omega⟩
        have w2 : IntKind.i64.wrap ((t : Int) - 2) = (n2 : Int) := by rw [wrap_small _ (by omega) (by omega)]; omega
        obtain ⟨n7, hn7, l7⟩ : ∃ n : Nat, t - 7 = n ∧ (n : Int) < 64 := ⟨_, rfl, by omega⟩
        have w7 : IntKind.i64.wrap ((t : Int) - 7) = (n7 : Int) := by rw [wrap_small _ (by omega) (by omega)]; omega
        obtain ⟨n15, hn15, l15⟩ : ∃ n : Nat, t - 15 = n ∧ (n : Int) < 64 := ⟨_, rfl, by omega⟩
        have w15 : IntKind.i64.wrap ((t : Int) - 15) = (n15 : Int) := by rw [wrap_small _ (by omega) (by omega)]; omega
        obtain ⟨n16, hn16, l16⟩ : ∃ n : Nat, t - 16 = n ∧ (n : Int) < 64 := ⟨_, rfl, by omega⟩
        have w16 : IntKind.i64.wrap ((t : Int) - 16) = (n16 : Int) := by rw [wrap_small _ (by omega) (by omega)]; omega
        have c1 := blk_cell bX (wvs_at (schZ_at p (t := t) (i := n2) (by omega)))
        have c2 := blk_cell bX (wvs_at (schZ_at p (t := t) (i := n7) (by omega)))
        have c3 := blk_cell bX (wvs_at (schZ_at p (t := t) (i := n15) (by omega)))
        have c4 := blk_cell bX (wvs_at (schZ_at p (t := t) (i := n16) (by omega)))
        have f1 := blk_frozen bX t
        have HN : Hid (schNext p t (sch p t) = sig1 (wAt (sch p t) n2) + wAt (sch p t) n7 + sig0 (wAt (sch p t) n15) + wAt (sch p t) n16) := Lib.hid (by unfold schNext; rw [if_neg h16, hn2, hn7, hn15, hn16])
        have HS := Lib.hid (schZ_set p hlt)
        generalize wAt (sch p t) n2 = x2 at *
        generalize wAt (sch p t) n7 = x7 at *
        generalize wAt (sch p t) n15 = x15 at *
        generalize wAt (sch p t) n16 = x16 at *
        clear hs
        have hx2 : (wvs (schZ p t)).toArray[n2]? = some (.int .u32 (x2.toNat : Int)) := by have := c1; rwa [cell_of_row _ _ _ _ _ (0, 0) bX] at this
        have hx7 : (wvs (schZ p t)).toArray[n7]? = some (.int .u32 (x7.toNat : Int)) := by have := c2; rwa [cell_of_row _ _ _ _ _ (0, 0) bX] at this
        have hx15 : (wvs (schZ p t)).toArray[n15]? = some (.int .u32 (x15.toNat : Int)) := by have := c3; rwa [cell_of_row _ _ _ _ _ (0, 0) bX] at this
        have hx16 : (wvs (schZ p t)).toArray[n16]? = some (.int .u32 (x16.toNat : Int)) := by have := c4; rwa [cell_of_row _ _ _ _ _ (0, 0) bX] at this
        let S : World → Prop := fun w' => w'.cell? ⟨w.heap.size + 1, n2, none⟩ = some (.int .u32 (x2.toNat : Int)) ∧ w'.cell? ⟨w.heap.size + 1, n7, none⟩ = some (.int .u32 (x7.toNat : Int)) ∧ w'.cell? ⟨w.heap.size + 1, n15, none⟩ = some (.int .u32 (x15.toNat : Int)) ∧ w'.cell? ⟨w.heap.size + 1, n16, none⟩ = some (.int .u32 (x16.toNat : Int))
        have hS0 : S wr.drew := ⟨c1, c2, c3, c4⟩
        have hSS : ∀ w' : World, w'.heap[w.heap.size + 1]? = wr.heap[w.heap.size + 1]? → S w' := fun w' h => ⟨(World.cell?_of_block (a := ⟨w.heap.size + 1, n2, none⟩) h).trans c1, (World.cell?_of_block (a := ⟨w.heap.size + 1, n7, none⟩) h).trans c2, (World.cell?_of_block (a := ⟨w.heap.size + 1, n15, none⟩) h).trans c3, (World.cell?_of_block (a := ⟨w.heap.size + 1, n16, none⟩) h).trans c4⟩
        have eA : ∀ o : Obj, (wr.drew.alloc o).heap[w.heap.size + 1]? = wr.heap[w.heap.size + 1]? := fun o => Below.heap_alloc _ _ _ hz1
        have eB : ∀ o o' : Obj, ((wr.drew.alloc o).alloc o').heap[w.heap.size + 1]? = wr.heap[w.heap.size + 1]? := fun o o' => (Below.heap_alloc _ _ _ (by rw [World.size_alloc]; show _ < wr.heap.size + 1; omega)).trans (eA o)
        have bV : ∀ o o' : Obj, ((wr.alloc o).alloc o').heap[w.heap.size + 1]? = some (.cells (wvs (schZ p t)).toArray 71) := fun o o' => (Below.heap_alloc _ _ _ (by rw [World.size_alloc]; omega)).trans ((Below.heap_alloc _ _ _ hz1).trans bX)
        have hzc : (wvs (schZ p t)).toArray[t]? = some (.int .u32 (((0 : W32).toNat : Nat) : Int)) := wvs_at (by rw [schZ_cons p hlt, List.getElem?_append_right (by rw [sch_len]; omega), sch_len, Nat.sub_self]; rfl)
        have HC := Lib.hid (fun o o' => blk_cell (bV o o') hzc)
        have HF := Lib.hid (fun o o' => blk_frozen (bV o o') t)
        clear hzc
        have hSX : ∀ V : World, V.heap[w.heap.size + 1]? = some (.cells (wvs (schZ p t)).toArray 71) → ∀ v, S (V.setCell ⟨w.heap.size + 1, t, none⟩ v) := fun V hV v =>
          ⟨blk_cell (blk_set hV t v) (by rw [Array.getElem?_setIfInBounds_ne (by omega)]; exact hx2), blk_cell (blk_set hV t v) (by rw [Array.getElem?_setIfInBounds_ne (by omega)]; exact hx7), blk_cell (blk_set hV t v) (by rw [Array.getElem?_setIfInBounds_ne (by omega)]; exact hx15), blk_cell (blk_set hV t v) (by rw [Array.getElem?_setIfInBounds_ne (by omega)]; exact hx16)⟩
        have HSX := Lib.hid hSX
        have HV := Lib.hid bV
        clear hSX bV hx2 hx7 hx15 hx16
        obtain ⟨rA, hrA⟩ : ∃ r, ror x2 17 ^^^ ror x2 19 = r := ⟨_, rfl⟩
        obtain ⟨rB, hrB⟩ : ∃ r, ror x15 7 ^^^ ror x15 18 = r := ⟨_, rfl⟩
        have hA := fun W g h => turned2 x2 17 19 (by omega) (by omega) W g h
        have hB' := fun W g h => turned2 x15 7 18 (by omega) (by omega) W g h
        rw [hrA] at hA
        rw [hrB] at hB'
        unfold sig1 sig0 at HN
        rw [hrA, hrB] at HN
        clear hrA hrB
        have HE : Hid ((((bits .xor .u32 (rA.toNat : Int) ((x2.toNat : Int) / 1024) + (x7.toNat : Int)) % 4294967296 + bits .xor .u32 (rB.toNat : Int) ((x15.toNat : Int) / 8)) % 4294967296 + (x16.toNat : Int)) % 4294967296 = ((schNext p t (sch p t)).toNat : Int)) := Lib.hid (by
          rw [HN.out, show (1024 : Int) = 2 ^ 10 from rfl, show (8 : Int) = 2 ^ 3 from rfl, w_shr, w_shr, w_xor, w_xor, m_add, m_add, m_add])
        have HZ : Hid (∀ o o' : Obj, ((wr.alloc o).alloc o').heap[w.heap.size]? = some (.cells (wvs z64).toArray 71)) := Lib.hid (fun o o' => (Below.heap_alloc _ _ _ (by rw [World.size_alloc]; omega)).trans ((Below.heap_alloc _ _ _ (by omega)).trans bZ))
        go_upto_region 6 with (fail)
        refine wp_region_held (S := S) (by kernel_rfl) ?_
        change wpAnyH _ _ _ _ S _ _ _ wr.drew
        refine wpAnyH_take (i := 0) (oi := ?oi_1) (v := ?v_1) ?ho_1 ?h1_1 ?h2_1 ?h3_1 ?hq_1 (Or.inl ⟨?hw_1, ?hy_1⟩) ?hs_1 ?rest_1; (case h2_1 => kernel_rfl); (case h3_1 => kernel_rfl); (case ho_1 => (simp only [List.getElem?_toArray, List.getElem?_cons_zero, List.getElem?_cons_succ]; rfl)); (case h1_1 => kernel_rfl); (case hq_1 => exact fun _ _ _ h => h); (case hw_1 => rfl); (case hy_1 => (intro w' hSw; (try simp only [S] at hSw); go_simp; (try with_reducible rfl))); (case hs_1 => assumption); (try simp only [Act.put, List.setIfInBounds_toArray, List.set_cons_zero, List.set_cons_succ])
        refine wpAnyH_take (i := 1) (oi := ?oi_2) (v := ?v_2) ?ho_2 ?h1_2 ?h2_2 ?h3_2 ?hq_2 (Or.inl ⟨?hw_2, ?hy_2⟩) ?hs_2 ?rest_2; (case h2_2 => kernel_rfl); (case h3_2 => kernel_rfl); (case ho_2 => (simp only [List.getElem?_toArray, List.getElem?_cons_zero, List.getElem?_cons_succ]; rfl)); (case h1_2 => kernel_rfl); (case hq_2 => exact fun _ _ _ h => h); (case hw_2 => rfl); (case hy_2 => (intro w' hSw; (try simp only [S] at hSw); go_simp; (try with_reducible rfl))); (case hs_2 => assumption); (try simp only [Act.put, List.setIfInBounds_toArray, List.set_cons_zero, List.set_cons_succ])
        refine wpAnyH_take (i := 2) (oi := ?oi_3) (v := ?v_3) ?ho_3 ?h1_3 ?h2_3 ?h3_3 ?hq_3 (Or.inl ⟨?hw_3, ?hy_3⟩) ?hs_3 ?rest_3; (case h2_3 => kernel_rfl); (case h3_3 => kernel_rfl); (case ho_3 => (simp only [List.getElem?_toArray, List.getElem?_cons_zero, List.getElem?_cons_succ]; rfl)); (case h1_3 => kernel_rfl); (case hq_3 => exact fun _ _ _ h => h); (case hw_3 => rfl); (case hy_3 => (intro w' hSw; (try simp only [S] at hSw); go_simp; (try with_reducible rfl))); (case hs_3 => assumption); (try simp only [Act.put, List.setIfInBounds_toArray, List.set_cons_zero, List.set_cons_succ])
        refine wpAnyH_take (i := 3) (oi := ?oi_4) (v := ?v_4) ?ho_4 ?h1_4 ?h2_4 ?h3_4 ?hq_4 (Or.inl ⟨?hw_4, ?hy_4⟩) ?hs_4 ?rest_4; (case h2_4 => kernel_rfl); (case h3_4 => kernel_rfl); (case ho_4 => (simp only [List.getElem?_toArray, List.getElem?_cons_zero, List.getElem?_cons_succ]; rfl)); (case h1_4 => kernel_rfl); (case hq_4 => exact fun _ _ _ h => h); (case hw_4 => rfl); (case hy_4 => (intro w' hSw; (try simp only [S] at hSw); go_simp; (try with_reducible rfl))); (case hs_4 => assumption); (try simp only [Act.put, List.setIfInBounds_toArray, List.set_cons_zero, List.set_cons_succ])
        refine wpAnyH_take (i := 4) (oi := ?oi_5) (v := ?v_5) ?ho_5 ?h1_5 ?h2_5 ?h3_5 ?hq_5 (Or.inl ⟨?hw_5, ?hy_5⟩) ?hs_5 ?rest_5; (case h2_5 => kernel_rfl); (case h3_5 => kernel_rfl); (case ho_5 => (simp only [List.getElem?_toArray, List.getElem?_cons_zero, List.getElem?_cons_succ]; rfl)); (case h1_5 => kernel_rfl); (case hq_5 => exact fun _ _ _ h => h); (case hw_5 => rfl); (case hy_5 => (intro w' hSw; (try simp only [S] at hSw); go_simp; (try with_reducible rfl))); (case hs_5 => assumption); (try simp only [Act.put, List.setIfInBounds_toArray, List.set_cons_zero, List.set_cons_succ])
        refine wpAnyH_take (i := 7) (oi := ?oi_6) (v := ?v_6) ?ho_6 ?h1_6 ?h2_6 ?h3_6 ?hq_6 (Or.inl ⟨?hw_6, ?hy_6⟩) ?hs_6 ?rest_6; (case h2_6 => kernel_rfl); (case h3_6 => kernel_rfl); (case ho_6 => (simp only [List.getElem?_toArray, List.getElem?_cons_zero, List.getElem?_cons_succ]; rfl)); (case h1_6 => kernel_rfl); (case hq_6 => exact fun _ _ _ h => h); (case hw_6 => rfl); (case hy_6 => (intro w' hSw; (try simp only [S] at hSw); go_simp; (try with_reducible rfl))); (case hs_6 => assumption); (try simp only [Act.put, List.setIfInBounds_toArray, List.set_cons_zero, List.set_cons_succ])
        refine wpAnyH_take (i := 8) (oi := ?oi_7) (v := ?v_7) ?ho_7 ?h1_7 ?h2_7 ?h3_7 ?hq_7 (Or.inl ⟨?hw_7, ?hy_7⟩) ?hs_7 ?rest_7; (case h2_7 => kernel_rfl); (case h3_7 => kernel_rfl); (case ho_7 => (simp only [List.getElem?_toArray, List.getElem?_cons_zero, List.getElem?_cons_succ]; rfl)); (case h1_7 => kernel_rfl); (case hq_7 => exact fun _ _ _ h => h); (case hw_7 => rfl); (case hy_7 => (intro w' hSw; (try simp only [S] at hSw); go_simp; (try with_reducible rfl))); (case hs_7 => assumption); (try simp only [Act.put, List.setIfInBounds_toArray, List.set_cons_zero, List.set_cons_succ])
        refine wpAnyH_take (i := 9) (oi := ?oi_8) (v := ?v_8) ?ho_8 ?h1_8 ?h2_8 ?h3_8 ?hq_8 (Or.inl ⟨?hw_8, ?hy_8⟩) ?hs_8 ?rest_8; (case h2_8 => kernel_rfl); (case h3_8 => kernel_rfl); (case ho_8 => (simp only [List.getElem?_toArray, List.getElem?_cons_zero, List.getElem?_cons_succ]; rfl)); (case h1_8 => kernel_rfl); (case hq_8 => exact fun _ _ _ h => h); (case hw_8 => rfl); (case hy_8 => (intro w' hSw; (try simp only [S] at hSw); go_simp; (try with_reducible rfl))); (case hs_8 => assumption); (try simp only [Act.put, List.setIfInBounds_toArray, List.set_cons_zero, List.set_cons_succ])
        refine wpAnyH_take (i := 10) (oi := ?oi_9) (v := ?v_9) ?ho_9 ?h1_9 ?h2_9 ?h3_9 ?hq_9 (Or.inl ⟨?hw_9, ?hy_9⟩) ?hs_9 ?rest_9; (case h2_9 => kernel_rfl); (case h3_9 => kernel_rfl); (case ho_9 => (simp only [List.getElem?_toArray, List.getElem?_cons_zero, List.getElem?_cons_succ]; rfl)); (case h1_9 => kernel_rfl); (case hq_9 => exact fun _ _ _ h => h); (case hw_9 => rfl); (case hy_9 => (intro w' hSw; (try simp only [S] at hSw); go_simp; (try with_reducible rfl))); (case hs_9 => assumption); (try simp only [Act.put, List.setIfInBounds_toArray, List.set_cons_zero, List.set_cons_succ])
        refine wpAnyH_take (i := 11) (oi := ?oi_10) (v := ?v_10) ?ho_10 ?h1_10 ?h2_10 ?h3_10 ?hq_10 (Or.inl ⟨?hw_10, ?hy_10⟩) ?hs_10 ?rest_10; (case h2_10 => kernel_rfl); (case h3_10 => kernel_rfl); (case ho_10 => (simp only [List.getElem?_toArray, List.getElem?_cons_zero, List.getElem?_cons_succ]; rfl)); (case h1_10 => kernel_rfl); (case hq_10 => exact fun _ _ _ h => h); (case hw_10 => rfl); (case hy_10 => (intro w' hSw; (try simp only [S] at hSw); go_simp; (try with_reducible rfl))); (case hs_10 => assumption); (try simp only [Act.put, List.setIfInBounds_toArray, List.set_cons_zero, List.set_cons_succ])
        refine wpAnyH_take (i := 13) (oi := ?oi_11) (v := ?v_11) ?ho_11 ?h1_11 ?h2_11 ?h3_11 ?hq_11 (Or.inl ⟨?hw_11, ?hy_11⟩) ?hs_11 ?rest_11; (case h2_11 => kernel_rfl); (case h3_11 => kernel_rfl); (case ho_11 => (simp only [List.getElem?_toArray, List.getElem?_cons_zero, List.getElem?_cons_succ]; rfl)); (case h1_11 => kernel_rfl); (case hq_11 => exact fun _ _ _ h => h); (case hw_11 => rfl); (case hy_11 => (intro w' hSw; (try simp only [S] at hSw); go_simp; (try with_reducible rfl))); (case hs_11 => assumption); (try simp only [Act.put, List.setIfInBounds_toArray, List.set_cons_zero, List.set_cons_succ])
        refine wpAnyH_take (i := 14) (oi := ?oi_12) (v := ?v_12) ?ho_12 ?h1_12 ?h2_12 ?h3_12 ?hq_12 (Or.inl ⟨?hw_12, ?hy_12⟩) ?hs_12 ?rest_12; (case h2_12 => kernel_rfl); (case h3_12 => kernel_rfl); (case ho_12 => (simp only [List.getElem?_toArray, List.getElem?_cons_zero, List.getElem?_cons_succ]; rfl)); (case h1_12 => kernel_rfl); (case hq_12 => exact fun _ _ _ h => h); (case hw_12 => rfl); (case hy_12 => (intro w' hSw; (try simp only [S] at hSw); go_simp; (try with_reducible rfl))); (case hs_12 => assumption); (try simp only [Act.put, List.setIfInBounds_toArray, List.set_cons_zero, List.set_cons_succ])
        refine wpAnyH_take (i := 15) (oi := ?oi_13) (v := ?v_13) ?ho_13 ?h1_13 ?h2_13 ?h3_13 ?hq_13 (Or.inl ⟨?hw_13, ?hy_13⟩) ?hs_13 ?rest_13; (case h2_13 => kernel_rfl); (case h3_13 => kernel_rfl); (case ho_13 => (simp only [List.getElem?_toArray, List.getElem?_cons_zero, List.getElem?_cons_succ]; rfl)); (case h1_13 => kernel_rfl); (case hq_13 => exact fun _ _ _ h => h); (case hw_13 => rfl); (case hy_13 => (intro w' hSw; (try simp only [S] at hSw); go_simp; (try with_reducible rfl))); (case hs_13 => assumption); (try simp only [Act.put, List.setIfInBounds_toArray, List.set_cons_zero, List.set_cons_succ])
        refine wpAnyH_take (i := 16) (oi := ?oi_14) (v := ?v_14) ?ho_14 ?h1_14 ?h2_14 ?h3_14 ?hq_14 (Or.inl ⟨?hw_14, ?hy_14⟩) ?hs_14 ?rest_14; (case h2_14 => kernel_rfl); (case h3_14 => kernel_rfl); (case ho_14 => (simp only [List.getElem?_toArray, List.getElem?_cons_zero, List.getElem?_cons_succ]; rfl)); (case h1_14 => kernel_rfl); (case hq_14 => exact fun _ _ _ h => h); (case hw_14 => rfl); (case hy_14 => (intro w' hSw; (try simp only [S] at hSw); go_simp; (try with_reducible rfl))); (case hs_14 => assumption); (try simp only [Act.put, List.setIfInBounds_toArray, List.set_cons_zero, List.set_cons_succ])
        refine wpAnyH_take (i := 18) (oi := ?oi_15) (v := ?v_15) ?ho_15 ?h1_15 ?h2_15 ?h3_15 ?hq_15 (Or.inl ⟨?hw_15, ?hy_15⟩) ?hs_15 ?rest_15; (case h2_15 => kernel_rfl); (case h3_15 => kernel_rfl); (case ho_15 => (simp only [List.getElem?_toArray, List.getElem?_cons_zero, List.getElem?_cons_succ]; rfl)); (case h1_15 => kernel_rfl); (case hq_15 => exact fun _ _ _ h => h); (case hw_15 => rfl); (case hy_15 => (intro w' hSw; (try simp only [S] at hSw); go_simp; (try with_reducible rfl))); (case hs_15 => assumption); (try simp only [Act.put, List.setIfInBounds_toArray, List.set_cons_zero, List.set_cons_succ])
        refine wpAnyH_take (i := 19) (oi := ?oi_16) (v := ?v_16) ?ho_16 ?h1_16 ?h2_16 ?h3_16 ?hq_16 (Or.inl ⟨?hw_16, ?hy_16⟩) ?hs_16 ?rest_16; (case h2_16 => kernel_rfl); (case h3_16 => kernel_rfl); (case ho_16 => (simp only [List.getElem?_toArray, List.getElem?_cons_zero, List.getElem?_cons_succ]; rfl)); (case h1_16 => kernel_rfl); (case hq_16 => exact fun _ _ _ h => h); (case hw_16 => rfl); (case hy_16 => (intro w' hSw; (try simp only [S] at hSw); go_simp; (try with_reducible rfl))); (case hs_16 => assumption); (try simp only [Act.put, List.setIfInBounds_toArray, List.set_cons_zero, List.set_cons_succ])
        refine wpAnyH_take (i := 20) (oi := ?oi_17) (v := ?v_17) ?ho_17 ?h1_17 ?h2_17 ?h3_17 ?hq_17 (Or.inl ⟨?hw_17, ?hy_17⟩) ?hs_17 ?rest_17; (case h2_17 => kernel_rfl); (case h3_17 => kernel_rfl); (case ho_17 => (simp only [List.getElem?_toArray, List.getElem?_cons_zero, List.getElem?_cons_succ]; rfl)); (case h1_17 => kernel_rfl); (case hq_17 => exact fun _ _ _ h => h); (case hw_17 => rfl); (case hy_17 => (intro w' hSw; (try simp only [S] at hSw); go_simp; (try with_reducible rfl))); (case hs_17 => assumption); (try simp only [Act.put, List.setIfInBounds_toArray, List.set_cons_zero, List.set_cons_succ])
        refine wpAnyH_take (i := 21) (oi := ?oi_18) (v := ?v_18) ?ho_18 ?h1_18 ?h2_18 ?h3_18 ?hq_18 (Or.inl ⟨?hw_18, ?hy_18⟩) ?hs_18 ?rest_18; (case h2_18 => kernel_rfl); (case h3_18 => kernel_rfl); (case ho_18 => (simp only [List.getElem?_toArray, List.getElem?_cons_zero, List.getElem?_cons_succ]; rfl)); (case h1_18 => kernel_rfl); (case hq_18 => exact fun _ _ _ h => h); (case hw_18 => rfl); (case hy_18 => (intro w' hSw; (try simp only [S] at hSw); go_simp; (try with_reducible rfl))); (case hs_18 => assumption); (try simp only [Act.put, List.setIfInBounds_toArray, List.set_cons_zero, List.set_cons_succ])
        refine wpAnyH_take (i := 24) (oi := ?oi_19) (v := ?v_19) ?ho_19 ?h1_19 ?h2_19 ?h3_19 ?hq_19 (Or.inl ⟨?hw_19, ?hy_19⟩) ?hs_19 ?rest_19; (case h2_19 => kernel_rfl); (case h3_19 => kernel_rfl); (case ho_19 => (simp only [List.getElem?_toArray, List.getElem?_cons_zero, List.getElem?_cons_succ]; rfl)); (case h1_19 => kernel_rfl); (case hq_19 => exact fun _ _ _ h => h); (case hw_19 => rfl); (case hy_19 => (intro w' hSw; (try simp only [S] at hSw); go_simp; (try with_reducible rfl))); (case hs_19 => assumption); (try simp only [Act.put, List.setIfInBounds_toArray, List.set_cons_zero, List.set_cons_succ])
        refine wpAnyH_take (i := 25) (oi := ?oi_20) (v := ?v_20) ?ho_20 ?h1_20 ?h2_20 ?h3_20 ?hq_20 (Or.inl ⟨?hw_20, ?hy_20⟩) ?hs_20 ?rest_20; (case h2_20 => kernel_rfl); (case h3_20 => kernel_rfl); (case ho_20 => (simp only [List.getElem?_toArray, List.getElem?_cons_zero, List.getElem?_cons_succ]; rfl)); (case h1_20 => kernel_rfl); (case hq_20 => exact fun _ _ _ h => h); (case hw_20 => rfl); (case hy_20 => (intro w' hSw; (try simp only [S] at hSw); go_simp; (try with_reducible rfl))); (case hs_20 => assumption); (try simp only [Act.put, List.setIfInBounds_toArray, List.set_cons_zero, List.set_cons_succ])
        refine wpAnyH_take (i := 26) (oi := ?oi_21) (v := ?v_21) ?ho_21 ?h1_21 ?h2_21 ?h3_21 ?hq_21 (Or.inl ⟨?hw_21, ?hy_21⟩) ?hs_21 ?rest_21; (case h2_21 => kernel_rfl); (case h3_21 => kernel_rfl); (case ho_21 => (simp only [List.getElem?_toArray, List.getElem?_cons_zero, List.getElem?_cons_succ]; rfl)); (case h1_21 => kernel_rfl); (case hq_21 => exact fun _ _ _ h => h); (case hw_21 => rfl); (case hy_21 => (intro w' hSw; (try simp only [S] at hSw); go_simp; (try with_reducible rfl))); (case hs_21 => assumption); (try simp only [Act.put, List.setIfInBounds_toArray, List.set_cons_zero, List.set_cons_succ])
        refine wpAnyH_take (i := 27) (oi := ?oi_22) (v := ?v_22) ?ho_22 ?h1_22 ?h2_22 ?h3_22 ?hq_22 (Or.inl ⟨?hw_22, ?hy_22⟩) ?hs_22 ?rest_22; (case h2_22 => kernel_rfl); (case h3_22 => kernel_rfl); (case ho_22 => (simp only [List.getElem?_toArray, List.getElem?_cons_zero, List.getElem?_cons_succ]; rfl)); (case h1_22 => kernel_rfl); (case hq_22 => exact fun _ _ _ h => h); (case hw_22 => rfl); (case hy_22 => (intro w' hSw; (try simp only [S] at hSw); go_simp; (try with_reducible rfl))); (case hs_22 => assumption); (try simp only [Act.put, List.setIfInBounds_toArray, List.set_cons_zero, List.set_cons_succ])
        refine wpAnyH_take (i := 28) (oi := ?oi_23) (v := ?v_23) ?ho_23 ?h1_23 ?h2_23 ?h3_23 ?hq_23 (Or.inl ⟨?hw_23, ?hy_23⟩) ?hs_23 ?rest_23; (case h2_23 => kernel_rfl); (case h3_23 => kernel_rfl); (case ho_23 => (simp only [List.getElem?_toArray, List.getElem?_cons_zero, List.getElem?_cons_succ]; rfl)); (case h1_23 => kernel_rfl); (case hq_23 => exact fun _ _ _ h => h); (case hw_23 => rfl); (case hy_23 => (intro w' hSw; (try simp only [S] at hSw); go_simp; (try with_reducible rfl))); (case hs_23 => assumption); (try simp only [Act.put, List.setIfInBounds_toArray, List.set_cons_zero, List.set_cons_succ])
        refine wpAnyH_take (i := 31) (oi := ?oi_24) (v := ?v_24) ?ho_24 ?h1_24 ?h2_24 ?h3_24 ?hq_24 (Or.inl ⟨?hw_24, ?hy_24⟩) ?hs_24 ?rest_24; (case h2_24 => kernel_rfl); (case h3_24 => kernel_rfl); (case ho_24 => (simp only [List.getElem?_toArray, List.getElem?_cons_zero, List.getElem?_cons_succ]; rfl)); (case h1_24 => kernel_rfl); (case hq_24 => exact fun _ _ _ h => h); (case hw_24 => rfl); (case hy_24 => (intro w' hSw; (try simp only [S] at hSw); go_simp; (try with_reducible rfl))); (case hs_24 => assumption); (try simp only [Act.put, List.setIfInBounds_toArray, List.set_cons_zero, List.set_cons_succ])
        refine wpAnyH_take (i := 32) (oi := ?oi_25) (v := ?v_25) ?ho_25 ?h1_25 ?h2_25 ?h3_25 ?hq_25 (Or.inl ⟨?hw_25, ?hy_25⟩) ?hs_25 ?rest_25; (case h2_25 => kernel_rfl); (case h3_25 => kernel_rfl); (case ho_25 => (simp only [List.getElem?_toArray, List.getElem?_cons_zero, List.getElem?_cons_succ]; rfl)); (case h1_25 => kernel_rfl); (case hq_25 => exact fun _ _ _ h => h); (case hw_25 => rfl); (case hy_25 => (intro w' hSw; (try simp only [S] at hSw); go_simp; (try with_reducible rfl))); (case hs_25 => assumption); (try simp only [Act.put, List.setIfInBounds_toArray, List.set_cons_zero, List.set_cons_succ])
        refine wpAnyH_take (i := 33) (oi := ?oi_26) (v := ?v_26) ?ho_26 ?h1_26 ?h2_26 ?h3_26 ?hq_26 (Or.inl ⟨?hw_26, ?hy_26⟩) ?hs_26 ?rest_26; (case h2_26 => kernel_rfl); (case h3_26 => kernel_rfl); (case ho_26 => (simp only [List.getElem?_toArray, List.getElem?_cons_zero, List.getElem?_cons_succ]; rfl)); (case h1_26 => kernel_rfl); (case hq_26 => exact fun _ _ _ h => h); (case hw_26 => rfl); (case hy_26 => (intro w' hSw; (try simp only [S] at hSw); go_simp; (try with_reducible rfl))); (case hs_26 => assumption); (try simp only [Act.put, List.setIfInBounds_toArray, List.set_cons_zero, List.set_cons_succ])
        refine wpAnyH_take (i := 34) (oi := ?oi_27) (v := ?v_27) ?ho_27 ?h1_27 ?h2_27 ?h3_27 ?hq_27 (Or.inl ⟨?hw_27, ?hy_27⟩) ?hs_27 ?rest_27; (case h2_27 => kernel_rfl); (case h3_27 => kernel_rfl); (case ho_27 => (simp only [List.getElem?_toArray, List.getElem?_cons_zero, List.getElem?_cons_succ]; rfl)); (case h1_27 => kernel_rfl); (case hq_27 => exact fun _ _ _ h => h); (case hw_27 => rfl); (case hy_27 => (intro w' hSw; (try simp only [S] at hSw); go_simp; (try with_reducible rfl))); (case hs_27 => assumption); (try simp only [Act.put, List.setIfInBounds_toArray, List.set_cons_zero, List.set_cons_succ])
        refine wpAnyH_ready (rs := [5, 22]) (by kernel_rfl) (by simp) (AllReadyH.cons (o := ?oo5_46) ?hoo5_46 (fun K hK => ?step5) (AllReadyH.cons (o := ?oo22_46) ?hoo22_46 (fun K hK => ?step22) AllReadyH.nil)); (case hoo5_46 => (simp only [List.getElem?_toArray, List.getElem?_cons_zero, List.getElem?_cons_succ]; rfl)); (case hoo22_46 => (simp only [List.getElem?_toArray, List.getElem?_cons_zero, List.getElem?_cons_succ]; rfl))
        case step5 =>
          go_simp
          refine hK.out _ _ (hSS _ (eA _)) (fun _ => ?_)
          clear hK K
          (try simp only [Act.put, List.setIfInBounds_toArray, List.set_cons_zero, List.set_cons_succ])
          refine wpAnyH_ready (rs := [6, 22]) (by kernel_rfl) (by simp) (AllReadyH.cons (o := ?oo6_47) ?hoo6_47 (fun K hK => ?stepB6) (AllReadyH.cons (o := ?oo22_47) ?hoo22_47 (fun K hK => ?stepB22) AllReadyH.nil)); (case hoo6_47 => (simp only [List.getElem?_toArray, List.getElem?_cons_zero, List.getElem?_cons_succ]; rfl)); (case hoo22_47 => (simp only [List.getElem?_toArray, List.getElem?_cons_zero, List.getElem?_cons_succ]; rfl))
          case stepB6 =>
            go_simp
            refine Calls.mono (hA _ _ ?_) ?_
            · exact heap_alloc_new wr _
            rintro e _ ⟨rfl, rfl⟩
            refine hK.out _ _ (hSS _ (eA _)) (fun _ => ?_)
            clear hK K
            (try simp only [Act.put, List.setIfInBounds_toArray, List.set_cons_zero, List.set_cons_succ])
            refine wpAnyH_take (i := 12) (oi := ?oi_28) (v := ?v_28) ?ho_28 ?h1_28 ?h2_28 ?h3_28 ?hq_28 (Or.inl ⟨?hw_28, ?hy_28⟩) ?hs_28 ?rest_28; (case h2_28 => kernel_rfl); (case h3_28 => kernel_rfl); (case ho_28 => (simp only [List.getElem?_toArray, List.getElem?_cons_zero, List.getElem?_cons_succ]; rfl)); (case h1_28 => kernel_rfl); (case hq_28 => exact fun _ _ _ h => h); (case hw_28 => rfl); (case hy_28 => (intro w' hSw; (try simp only [S] at hSw); go_simp; (try with_reducible rfl))); (case hs_28 => assumption); (try simp only [Act.put, List.setIfInBounds_toArray, List.set_cons_zero, List.set_cons_succ])
            refine wpAnyH_take (i := 17) (oi := ?oi_29) (v := ?v_29) ?ho_29 ?h1_29 ?h2_29 ?h3_29 ?hq_29 (Or.inl ⟨?hw_29, ?hy_29⟩) ?hs_29 ?rest_29; (case h2_29 => kernel_rfl); (case h3_29 => kernel_rfl); (case ho_29 => (simp only [List.getElem?_toArray, List.getElem?_cons_zero, List.getElem?_cons_succ]; rfl)); (case h1_29 => kernel_rfl); (case hq_29 => exact fun _ _ _ h => h); (case hw_29 => rfl); (case hy_29 => (intro w' hSw; (try simp only [S] at hSw); go_simp; (try with_reducible rfl))); (case hs_29 => assumption); (try simp only [Act.put, List.setIfInBounds_toArray, List.set_cons_zero, List.set_cons_succ])
            refine wpAnyH_ready (rs := [22]) (by kernel_rfl) (by simp) (AllReadyH.cons (o := ?oo22_48) ?hoo22_48 (fun K hK => ?steponly48) AllReadyH.nil); (case hoo22_48 => (simp only [List.getElem?_toArray, List.getElem?_cons_zero, List.getElem?_cons_succ]; rfl))
            go_simp
            refine hK.out _ _ (hSS _ (eB _ _)) (fun _ => ?_)
            clear hK K
            (try simp only [Act.put, List.setIfInBounds_toArray, List.set_cons_zero, List.set_cons_succ])
            refine wpAnyH_ready (rs := [23]) (by kernel_rfl) (by simp) (AllReadyH.cons (o := ?oo23_49) ?hoo23_49 (fun K hK => ?steponly49) AllReadyH.nil); (case hoo23_49 => (simp only [List.getElem?_toArray, List.getElem?_cons_zero, List.getElem?_cons_succ]; rfl))
            go_simp
            refine Calls.mono (hB' _ _ ?_) ?_
            · exact heap_alloc_two wr _ _
            rintro e _ ⟨rfl, rfl⟩
            refine hK.out _ _ (hSS _ (eB _ _)) (fun _ => ?_)
            clear hK K
            (try simp only [Act.put, List.setIfInBounds_toArray, List.set_cons_zero, List.set_cons_succ])
            have k1 := HC.out (.cells #[.int .i64 17, .int .i64 19] 3) (.cells #[.int .i64 7, .int .i64 18] 3)
            have k2 := HF.out (.cells #[.int .i64 17, .int .i64 19] 3) (.cells #[.int .i64 7, .int .i64 18] 3)
            refine wpAnyH_take (i := 29) (oi := ?oi_30) (v := ?v_30) ?ho_30 ?h1_30 ?h2_30 ?h3_30 ?hq_30 (Or.inl ⟨?hw_30, ?hy_30⟩) ?hs_30 ?rest_30; (case h2_30 => kernel_rfl); (case h3_30 => kernel_rfl); (case ho_30 => (simp only [List.getElem?_toArray, List.getElem?_cons_zero, List.getElem?_cons_succ]; rfl)); (case h1_30 => kernel_rfl); (case hq_30 => exact fun _ _ _ h => h); (case hw_30 => rfl); (case hy_30 => (intro w' hSw; (try simp only [S] at hSw); go_simp; (try with_reducible rfl))); (case hs_30 => assumption); (try simp only [Act.put, List.setIfInBounds_toArray, List.set_cons_zero, List.set_cons_succ])
            refine wpAnyH_take (i := 30) (oi := ?oi_31) (v := ?v_31) ?ho_31 ?h1_31 ?h2_31 ?h3_31 ?hq_31 (Or.inl ⟨?hw_31, ?hy_31⟩) ?hs_31 ?rest_31; (case h2_31 => kernel_rfl); (case h3_31 => kernel_rfl); (case ho_31 => (simp only [List.getElem?_toArray, List.getElem?_cons_zero, List.getElem?_cons_succ]; rfl)); (case h1_31 => kernel_rfl); (case hq_31 => exact fun _ _ _ h => h); (case hw_31 => rfl); (case hy_31 => (intro w' hSw; (try simp only [S] at hSw); go_simp; (try with_reducible rfl))); (case hs_31 => assumption); (try simp only [Act.put, List.setIfInBounds_toArray, List.set_cons_zero, List.set_cons_succ])
            refine wpAnyH_take (i := 35) (oi := ?oi_32) (v := ?v_32) ?ho_32 ?h1_32 ?h2_32 ?h3_32 ?hq_32 (Or.inl ⟨?hw_32, ?hy_32⟩) ?hs_32 ?rest_32; (case h2_32 => kernel_rfl); (case h3_32 => kernel_rfl); (case ho_32 => (simp only [List.getElem?_toArray, List.getElem?_cons_zero, List.getElem?_cons_succ]; rfl)); (case h1_32 => kernel_rfl); (case hq_32 => exact fun _ _ _ h => h); (case hw_32 => rfl); (case hy_32 => (intro w' hSw; (try simp only [S] at hSw); go_simp; (try with_reducible rfl))); (case hs_32 => assumption); (try simp only [Act.put, List.setIfInBounds_toArray, List.set_cons_zero, List.set_cons_succ])
            refine wpAnyH_take (i := 36) (oi := ?oi_33) (v := ?v_33) ?ho_33 ?h1_33 ?h2_33 ?h3_33 ?hq_33 (Or.inl ⟨?hw_33, ?hy_33⟩) ?hs_33 ?rest_33; (case h2_33 => kernel_rfl); (case h3_33 => kernel_rfl); (case ho_33 => (simp only [List.getElem?_toArray, List.getElem?_cons_zero, List.getElem?_cons_succ]; rfl)); (case h1_33 => kernel_rfl); (case hq_33 => exact fun _ _ _ h => h); (case hw_33 => rfl); (case hy_33 => (intro w' hSw; (try simp only [S] at hSw); go_simp; (try with_reducible rfl))); (case hs_33 => assumption); (try simp only [Act.put, List.setIfInBounds_toArray, List.set_cons_zero, List.set_cons_succ])
            refine wpAnyH_ready (rs := [37]) (by kernel_rfl) (by simp) (AllReadyH.cons (o := ?oo37_50) ?hoo37_50 (fun K hK => ?steponly50) AllReadyH.nil); (case hoo37_50 => (simp only [List.getElem?_toArray, List.getElem?_cons_zero, List.getElem?_cons_succ]; rfl))
            go_simp
            refine hK.out _ _ (HSX.out _ (HV.out (.cells #[.int .i64 17, .int .i64 19] 3) (.cells #[.int .i64 7, .int .i64 18] 3)) _) (fun _ => ?_)
            clear hK K
            (try simp only [Act.put, List.setIfInBounds_toArray, List.set_cons_zero, List.set_cons_succ])
            refine wpAnyH_done (by kernel_rfl) ?_ _
            go_wp2
            rw [HE.out]
            exact ⟨⟨t + 1, by go_num, by omega, blk_far (HZ.out (.cells #[.int .i64 17, .int .i64 19] 3) (.cells #[.int .i64 7, .int .i64 18] 3)) _ (by simp), by rw [← HS.out, ← wvs_set]; exact blk_set (HV.out (.cells #[.int .i64 17, .int .i64 19] 3) (.cells #[.int .i64 7, .int .i64 18] 3)) t _, (by repeat (first | (with_reducible exact Below.refl _ _) | (with_reducible refine bDrewN ?_ _) | (with_reducible refine Below.drew ?_) | (with_reducible refine Below.alloc ?_ ?_ _) | (with_reducible refine Below.setCell ?_ ?_ _) | (with_reducible assumption) | go_size))⟩, by simp [intOf]; omega⟩
          case stepB22 =>
            go_simp
            refine hK.out _ _ (hSS _ (eB _ _)) (fun _ => ?_)
            clear hK K
            (try simp only [Act.put, List.setIfInBounds_toArray, List.set_cons_zero, List.set_cons_succ])
            refine wpAnyH_ready (rs := [6]) (by kernel_rfl) (by simp) (AllReadyH.cons (o := ?oo6_51) ?hoo6_51 (fun K hK => ?steponly51) AllReadyH.nil); (case hoo6_51 => (simp only [List.getElem?_toArray, List.getElem?_cons_zero, List.getElem?_cons_succ]; rfl))
            go_simp
            refine Calls.mono (hA _ _ ?_) ?_
            · exact heap_alloc_fst wr _ _
            rintro e _ ⟨rfl, rfl⟩
            refine hK.out _ _ (hSS _ (eB _ _)) (fun _ => ?_)
            clear hK K
            (try simp only [Act.put, List.setIfInBounds_toArray, List.set_cons_zero, List.set_cons_succ])
            refine wpAnyH_take (i := 12) (oi := ?oi_34) (v := ?v_34) ?ho_34 ?h1_34 ?h2_34 ?h3_34 ?hq_34 (Or.inl ⟨?hw_34, ?hy_34⟩) ?hs_34 ?rest_34; (case h2_34 => kernel_rfl); (case h3_34 => kernel_rfl); (case ho_34 => (simp only [List.getElem?_toArray, List.getElem?_cons_zero, List.getElem?_cons_succ]; rfl)); (case h1_34 => kernel_rfl); (case hq_34 => exact fun _ _ _ h => h); (case hw_34 => rfl); (case hy_34 => (intro w' hSw; (try simp only [S] at hSw); go_simp; (try with_reducible rfl))); (case hs_34 => assumption); (try simp only [Act.put, List.setIfInBounds_toArray, List.set_cons_zero, List.set_cons_succ])
            refine wpAnyH_take (i := 17) (oi := ?oi_35) (v := ?v_35) ?ho_35 ?h1_35 ?h2_35 ?h3_35 ?hq_35 (Or.inl ⟨?hw_35, ?hy_35⟩) ?hs_35 ?rest_35; (case h2_35 => kernel_rfl); (case h3_35 => kernel_rfl); (case ho_35 => (simp only [List.getElem?_toArray, List.getElem?_cons_zero, List.getElem?_cons_succ]; rfl)); (case h1_35 => kernel_rfl); (case hq_35 => exact fun _ _ _ h => h); (case hw_35 => rfl); (case hy_35 => (intro w' hSw; (try simp only [S] at hSw); go_simp; (try with_reducible rfl))); (case hs_35 => assumption); (try simp only [Act.put, List.setIfInBounds_toArray, List.set_cons_zero, List.set_cons_succ])
            refine wpAnyH_ready (rs := [23]) (by kernel_rfl) (by simp) (AllReadyH.cons (o := ?oo23_52) ?hoo23_52 (fun K hK => ?steponly52) AllReadyH.nil); (case hoo23_52 => (simp only [List.getElem?_toArray, List.getElem?_cons_zero, List.getElem?_cons_succ]; rfl))
            go_simp
            refine Calls.mono (hB' _ _ ?_) ?_
            · exact heap_alloc_two wr _ _
            rintro e _ ⟨rfl, rfl⟩
            refine hK.out _ _ (hSS _ (eB _ _)) (fun _ => ?_)
            clear hK K
            (try simp only [Act.put, List.setIfInBounds_toArray, List.set_cons_zero, List.set_cons_succ])
            have k1 := HC.out (.cells #[.int .i64 17, .int .i64 19] 3) (.cells #[.int .i64 7, .int .i64 18] 3)
            have k2 := HF.out (.cells #[.int .i64 17, .int .i64 19] 3) (.cells #[.int .i64 7, .int .i64 18] 3)
            refine wpAnyH_take (i := 29) (oi := ?oi_36) (v := ?v_36) ?ho_36 ?h1_36 ?h2_36 ?h3_36 ?hq_36 (Or.inl ⟨?hw_36, ?hy_36⟩) ?hs_36 ?rest_36; (case h2_36 => kernel_rfl); (case h3_36 => kernel_rfl); (case ho_36 => (simp only [List.getElem?_toArray, List.getElem?_cons_zero, List.getElem?_cons_succ]; rfl)); (case h1_36 => kernel_rfl); (case hq_36 => exact fun _ _ _ h => h); (case hw_36 => rfl); (case hy_36 => (intro w' hSw; (try simp only [S] at hSw); go_simp; (try with_reducible rfl))); (case hs_36 => assumption); (try simp only [Act.put, List.setIfInBounds_toArray, List.set_cons_zero, List.set_cons_succ])
            refine wpAnyH_take (i := 30) (oi := ?oi_37) (v := ?v_37) ?ho_37 ?h1_37 ?h2_37 ?h3_37 ?hq_37 (Or.inl ⟨?hw_37, ?hy_37⟩) ?hs_37 ?rest_37; (case h2_37 => kernel_rfl); (case h3_37 => kernel_rfl); (case ho_37 => (simp only [List.getElem?_toArray, List.getElem?_cons_zero, List.getElem?_cons_succ]; rfl)); (case h1_37 => kernel_rfl); (case hq_37 => exact fun _ _ _ h => h); (case hw_37 => rfl); (case hy_37 => (intro w' hSw; (try simp only [S] at hSw); go_simp; (try with_reducible rfl))); (case hs_37 => assumption); (try simp only [Act.put, List.setIfInBounds_toArray, List.set_cons_zero, List.set_cons_succ])
            refine wpAnyH_take (i := 35) (oi := ?oi_38) (v := ?v_38) ?ho_38 ?h1_38 ?h2_38 ?h3_38 ?hq_38 (Or.inl ⟨?hw_38, ?hy_38⟩) ?hs_38 ?rest_38; (case h2_38 => kernel_rfl); (case h3_38 => kernel_rfl); (case ho_38 => (simp only [List.getElem?_toArray, List.getElem?_cons_zero, List.getElem?_cons_succ]; rfl)); (case h1_38 => kernel_rfl); (case hq_38 => exact fun _ _ _ h => h); (case hw_38 => rfl); (case hy_38 => (intro w' hSw; (try simp only [S] at hSw); go_simp; (try with_reducible rfl))); (case hs_38 => assumption); (try simp only [Act.put, List.setIfInBounds_toArray, List.set_cons_zero, List.set_cons_succ])
            refine wpAnyH_take (i := 36) (oi := ?oi_39) (v := ?v_39) ?ho_39 ?h1_39 ?h2_39 ?h3_39 ?hq_39 (Or.inl ⟨?hw_39, ?hy_39⟩) ?hs_39 ?rest_39; (case h2_39 => kernel_rfl); (case h3_39 => kernel_rfl); (case ho_39 => (simp only [List.getElem?_toArray, List.getElem?_cons_zero, List.getElem?_cons_succ]; rfl)); (case h1_39 => kernel_rfl); (case hq_39 => exact fun _ _ _ h => h); (case hw_39 => rfl); (case hy_39 => (intro w' hSw; (try simp only [S] at hSw); go_simp; (try with_reducible rfl))); (case hs_39 => assumption); (try simp only [Act.put, List.setIfInBounds_toArray, List.set_cons_zero, List.set_cons_succ])
            refine wpAnyH_ready (rs := [37]) (by kernel_rfl) (by simp) (AllReadyH.cons (o := ?oo37_53) ?hoo37_53 (fun K hK => ?steponly53) AllReadyH.nil); (case hoo37_53 => (simp only [List.getElem?_toArray, List.getElem?_cons_zero, List.getElem?_cons_succ]; rfl))
            go_simp
            refine hK.out _ _ (HSX.out _ (HV.out (.cells #[.int .i64 17, .int .i64 19] 3) (.cells #[.int .i64 7, .int .i64 18] 3)) _) (fun _ => ?_)
            clear hK K
            (try simp only [Act.put, List.setIfInBounds_toArray, List.set_cons_zero, List.set_cons_succ])
            refine wpAnyH_done (by kernel_rfl) ?_ _
            go_wp2
            rw [HE.out]
            exact ⟨⟨t + 1, by go_num, by omega, blk_far (HZ.out (.cells #[.int .i64 17, .int .i64 19] 3) (.cells #[.int .i64 7, .int .i64 18] 3)) _ (by simp), by rw [← HS.out, ← wvs_set]; exact blk_set (HV.out (.cells #[.int .i64 17, .int .i64 19] 3) (.cells #[.int .i64 7, .int .i64 18] 3)) t _, (by repeat (first | (with_reducible exact Below.refl _ _) | (with_reducible refine bDrewN ?_ _) | (with_reducible refine Below.drew ?_) | (with_reducible refine Below.alloc ?_ ?_ _) | (with_reducible refine Below.setCell ?_ ?_ _) | (with_reducible assumption) | go_size))⟩, by simp [intOf]; omega⟩
        case step22 =>
          go_simp
          refine hK.out _ _ (hSS _ (eA _)) (fun _ => ?_)
          clear hK K
          (try simp only [Act.put, List.setIfInBounds_toArray, List.set_cons_zero, List.set_cons_succ])
          refine wpAnyH_ready (rs := [5]) (by kernel_rfl) (by simp) (AllReadyH.cons (o := ?oo5_54) ?hoo5_54 (fun K hK => ?steponly54) AllReadyH.nil); (case hoo5_54 => (simp only [List.getElem?_toArray, List.getElem?_cons_zero, List.getElem?_cons_succ]; rfl))
          go_simp
          refine hK.out _ _ (hSS _ (eB _ _)) (fun _ => ?_)
          clear hK K
          (try simp only [Act.put, List.setIfInBounds_toArray, List.set_cons_zero, List.set_cons_succ])
          refine wpAnyH_ready (rs := [6]) (by kernel_rfl) (by simp) (AllReadyH.cons (o := ?oo6_55) ?hoo6_55 (fun K hK => ?steponly55) AllReadyH.nil); (case hoo6_55 => (simp only [List.getElem?_toArray, List.getElem?_cons_zero, List.getElem?_cons_succ]; rfl))
          go_simp
          refine Calls.mono (hA _ _ ?_) ?_
          · exact heap_alloc_two wr _ _
          rintro e _ ⟨rfl, rfl⟩
          refine hK.out _ _ (hSS _ (eB _ _)) (fun _ => ?_)
          clear hK K
          (try simp only [Act.put, List.setIfInBounds_toArray, List.set_cons_zero, List.set_cons_succ])
          refine wpAnyH_take (i := 12) (oi := ?oi_40) (v := ?v_40) ?ho_40 ?h1_40 ?h2_40 ?h3_40 ?hq_40 (Or.inl ⟨?hw_40, ?hy_40⟩) ?hs_40 ?rest_40; (case h2_40 => kernel_rfl); (case h3_40 => kernel_rfl); (case ho_40 => (simp only [List.getElem?_toArray, List.getElem?_cons_zero, List.getElem?_cons_succ]; rfl)); (case h1_40 => kernel_rfl); (case hq_40 => exact fun _ _ _ h => h); (case hw_40 => rfl); (case hy_40 => (intro w' hSw; (try simp only [S] at hSw); go_simp; (try with_reducible rfl))); (case hs_40 => assumption); (try simp only [Act.put, List.setIfInBounds_toArray, List.set_cons_zero, List.set_cons_succ])
          refine wpAnyH_take (i := 17) (oi := ?oi_41) (v := ?v_41) ?ho_41 ?h1_41 ?h2_41 ?h3_41 ?hq_41 (Or.inl ⟨?hw_41, ?hy_41⟩) ?hs_41 ?rest_41; (case h2_41 => kernel_rfl); (case h3_41 => kernel_rfl); (case ho_41 => (simp only [List.getElem?_toArray, List.getElem?_cons_zero, List.getElem?_cons_succ]; rfl)); (case h1_41 => kernel_rfl); (case hq_41 => exact fun _ _ _ h => h); (case hw_41 => rfl); (case hy_41 => (intro w' hSw; (try simp only [S] at hSw); go_simp; (try with_reducible rfl))); (case hs_41 => assumption); (try simp only [Act.put, List.setIfInBounds_toArray, List.set_cons_zero, List.set_cons_succ])
          refine wpAnyH_ready (rs := [23]) (by kernel_rfl) (by simp) (AllReadyH.cons (o := ?oo23_56) ?hoo23_56 (fun K hK => ?steponly56) AllReadyH.nil); (case hoo23_56 => (simp only [List.getElem?_toArray, List.getElem?_cons_zero, List.getElem?_cons_succ]; rfl))
          go_simp
          refine Calls.mono (hB' _ _ ?_) ?_
          · exact heap_alloc_fst wr _ _
          rintro e _ ⟨rfl, rfl⟩
          refine hK.out _ _ (hSS _ (eB _ _)) (fun _ => ?_)
          clear hK K
          (try simp only [Act.put, List.setIfInBounds_toArray, List.set_cons_zero, List.set_cons_succ])
          have k1 := HC.out (.cells #[.int .i64 7, .int .i64 18] 3) (.cells #[.int .i64 17, .int .i64 19] 3)
          have k2 := HF.out (.cells #[.int .i64 7, .int .i64 18] 3) (.cells #[.int .i64 17, .int .i64 19] 3)
          refine wpAnyH_take (i := 29) (oi := ?oi_42) (v := ?v_42) ?ho_42 ?h1_42 ?h2_42 ?h3_42 ?hq_42 (Or.inl ⟨?hw_42, ?hy_42⟩) ?hs_42 ?rest_42; (case h2_42 => kernel_rfl); (case h3_42 => kernel_rfl); (case ho_42 => (simp only [List.getElem?_toArray, List.getElem?_cons_zero, List.getElem?_cons_succ]; rfl)); (case h1_42 => kernel_rfl); (case hq_42 => exact fun _ _ _ h => h); (case hw_42 => rfl); (case hy_42 => (intro w' hSw; (try simp only [S] at hSw); go_simp; (try with_reducible rfl))); (case hs_42 => assumption); (try simp only [Act.put, List.setIfInBounds_toArray, List.set_cons_zero, List.set_cons_succ])
          refine wpAnyH_take (i := 30) (oi := ?oi_43) (v := ?v_43) ?ho_43 ?h1_43 ?h2_43 ?h3_43 ?hq_43 (Or.inl ⟨?hw_43, ?hy_43⟩) ?hs_43 ?rest_43; (case h2_43 => kernel_rfl); (case h3_43 => kernel_rfl); (case ho_43 => (simp only [List.getElem?_toArray, List.getElem?_cons_zero, List.getElem?_cons_succ]; rfl)); (case h1_43 => kernel_rfl); (case hq_43 => exact fun _ _ _ h => h); (case hw_43 => rfl); (case hy_43 => (intro w' hSw; (try simp only [S] at hSw); go_simp; (try with_reducible rfl))); (case hs_43 => assumption); (try simp only [Act.put, List.setIfInBounds_toArray, List.set_cons_zero, List.set_cons_succ])
          refine wpAnyH_take (i := 35) (oi := ?oi_44) (v := ?v_44) ?ho_44 ?h1_44 ?h2_44 ?h3_44 ?hq_44 (Or.inl ⟨?hw_44, ?hy_44⟩) ?hs_44 ?rest_44; (case h2_44 => kernel_rfl); (case h3_44 => kernel_rfl); (case ho_44 => (simp only [List.getElem?_toArray, List.getElem?_cons_zero, List.getElem?_cons_succ]; rfl)); (case h1_44 => kernel_rfl); (case hq_44 => exact fun _ _ _ h => h); (case hw_44 => rfl); (case hy_44 => (intro w' hSw; (try simp only [S] at hSw); go_simp; (try with_reducible rfl))); (case hs_44 => assumption); (try simp only [Act.put, List.setIfInBounds_toArray, List.set_cons_zero, List.set_cons_succ])
          refine wpAnyH_take (i := 36) (oi := ?oi_45) (v := ?v_45) ?ho_45 ?h1_45 ?h2_45 ?h3_45 ?hq_45 (Or.inl ⟨?hw_45, ?hy_45⟩) ?hs_45 ?rest_45; (case h2_45 => kernel_rfl); (case h3_45 => kernel_rfl); (case ho_45 => (simp only [List.getElem?_toArray, List.getElem?_cons_zero, List.getElem?_cons_succ]; rfl)); (case h1_45 => kernel_rfl); (case hq_45 => exact fun _ _ _ h => h); (case hw_45 => rfl); (case hy_45 => (intro w' hSw; (try simp only [S] at hSw); go_simp; (try with_reducible rfl))); (case hs_45 => assumption); (try simp only [Act.put, List.setIfInBounds_toArray, List.set_cons_zero, List.set_cons_succ])
          refine wpAnyH_ready (rs := [37]) (by kernel_rfl) (by simp) (AllReadyH.cons (o := ?oo37_57) ?hoo37_57 (fun K hK => ?steponly57) AllReadyH.nil); (case hoo37_57 => (simp only [List.getElem?_toArray, List.getElem?_cons_zero, List.getElem?_cons_succ]; rfl))
          go_simp
          refine hK.out _ _ (HSX.out _ (HV.out (.cells #[.int .i64 7, .int .i64 18] 3) (.cells #[.int .i64 17, .int .i64 19] 3)) _) (fun _ => ?_)
          clear hK K
          (try simp only [Act.put, List.setIfInBounds_toArray, List.set_cons_zero, List.set_cons_succ])
          refine wpAnyH_done (by kernel_rfl) ?_ _
          go_wp2
          rw [HE.out]
          exact ⟨⟨t + 1, by go_num, by omega, blk_far (HZ.out (.cells #[.int .i64 7, .int .i64 18] 3) (.cells #[.int .i64 17, .int .i64 19] 3)) _ (by simp), by rw [← HS.out, ← wvs_set]; exact blk_set (HV.out (.cells #[.int .i64 7, .int .i64 18] 3) (.cells #[.int .i64 17, .int .i64 19] 3)) t _, (by repeat (first | (with_reducible exact Below.refl _ _) | (with_reducible refine bDrewN ?_ _) | (with_reducible refine Below.drew ?_) | (with_reducible refine Below.alloc ?_ ?_ _) | (with_reducible refine Below.setCell ?_ ?_ _) | (with_reducible assumption) | go_size))⟩, by simp [intOf]; omega⟩
    · obtain rfl : t = 64 := by omega
      rw [schZ_all] at bX
      have hzl : z64.length = 64 := rfl
      have hsl : (sch p 64).length = 64 := sch_len p 64
      generalize sch p 64 = M at *
      clear hs
      go_wp2_with (first
        | (refine wpList_load_row rfl 71 (.tmp 3) rfl _ rfl _ (wvs M).toArray (0, 0) _ bX Try.underlying71 rfl (w64_info hsl) ?_)
        | (refine wpList_store_row rfl 71 (.tmp 2) (.tmp 72) rfl _ (wvs M).toArray rfl rfl _ (wvs z64).toArray bZ (w64_info hsl) (ws_sizes hzl hsl) (all_oneCell_toArray (oneCell_wvs _)) ?_)
        | fail)
      generalize hX : World.setRow _ _ _ = X
      have bZX : X.heap[w.heap.size]? = some (.cells (wvs M).toArray 71) := by rw [← hX]; exact setRow_heap _ _ _ _ _ _ bZ
      have hBX : Below w.heap.size w X := by rw [← hX]; exact bSetRow hB (Nat.le_refl _) _
      clear hX
      have hld := run_loadVar_row (P := Try.prog) X _ _ 71 _ _ _ bZX Try.underlying71 rfl (w64_info hsl)
      refine bodyPost_ret (by simp [results, Try.results36, Act.put, asAddr, Result.andThen, hld]; try rfl) rfl ?_
      exact Ret.mk rfl hBX
end Go.Proofs.Ytcnbonmpocddmaa
