/- The walk over sha.schedule. -/
import Derived.Test.YtnkdbkgihemjnaaShaRot
namespace Go.Proofs.Ytnkdbkgihemjnaa
set_option linter.unusedSimpArgs false
set_option linter.unusedVariables false
open Go.RowKit

/-! ### plain -/
def schZ (p : List UInt8) (t : Nat) : List W32 := sch p t ++ List.replicate (64 - t) 0
def schP (p : List UInt8) (t k : Nat) : List W32 := sch p t ++ word p t k :: List.replicate (63 - t) 0
theorem schZ_len (p : List UInt8) {t : Nat} (h : t ≤ 64) : (schZ p t).length = 64 := by simp [schZ, sch_len]; omega
theorem schP_len (p : List UInt8) {t : Nat} (h : t < 64) (k : Nat) : (schP p t k).length = 64 := by simp [schP, sch_len]; omega
theorem schZ_none (p : List UInt8) : schZ p 0 = z64 := rfl
theorem schZ_all (p : List UInt8) : schZ p 64 = sch p 64 := by simp [schZ]
theorem schZ_cons (p : List UInt8) {t : Nat} (h : t < 64) : schZ p t = sch p t ++ 0 :: List.replicate (63 - t) 0 := by
  unfold schZ
  rw [show 64 - t = (63 - t) + 1 from by omega, List.replicate_succ]
theorem schP_none (p : List UInt8) {t : Nat} (h : t < 64) : schP p t 0 = schZ p t := by rw [schZ_cons p h]; rfl
theorem set_mid {l r : List W32} {x y : W32} {t : Nat} (h : l.length = t) : (l ++ x :: r).set t y = l ++ y :: r := by
  subst h
  rw [List.set_append, if_neg (by omega), Nat.sub_self, List.set_cons_zero]
theorem schP_set (p : List UInt8) (t k : Nat) : (schP p t k).set t (word p t (k + 1)) = schP p t (k + 1) := set_mid (sch_len p t)
theorem sch_put (p : List UInt8) (t : Nat) : sch p t ++ schNext p t (sch p t) :: List.replicate (63 - t) 0 = schZ p (t + 1) := by
  unfold schZ
  rw [sch, List.append_assoc, show 64 - (t + 1) = 63 - t from by omega]; rfl
theorem schP_all (p : List UInt8) {t : Nat} (h : t < 16) : schP p t 4 = schZ p (t + 1) := by
  rw [← sch_put]
  unfold schP schNext
  rw [if_pos h]
theorem schZ_set (p : List UInt8) {t : Nat} (h : t < 64) : (schZ p t).set t (schNext p t (sch p t)) = schZ p (t + 1) := by
  rw [schZ_cons p h, set_mid (sch_len p t), sch_put]
theorem schZ_at (p : List UInt8) {t i : Nat} (h : i < t) : (schZ p t)[i]? = some (wAt (sch p t) i) := by
  unfold schZ wAt
  rw [List.getElem?_append_left (by rw [sch_len]; exact h), List.getElem?_eq_getElem (by rw [sch_len]; exact h)]; rfl
theorem schP_at (p : List UInt8) (t k : Nat) : (schP p t k)[t]? = some (word p t k) := by
  unfold schP
  rw [List.getElem?_append_right (by rw [sch_len]; omega), sch_len, Nat.sub_self]; rfl
theorem m_of8 (b : UInt8) : (b.toNat : Int) % 4294967296 = (((BitVec.ofNat 32 b.toNat : W32).toNat : Nat) : Int) := by
  rw [BitVec.toNat_ofNat]; rfl
theorem wvs_set (l : List W32) (i : Nat) (x : W32) : (wvs l).toArray.setIfInBounds i (.int .u32 ((x.toNat : Nat) : Int)) = (wvs (l.set i x)).toArray := by
  simp [wvs, wv, List.map_set]
theorem wvs_at {l : List W32} {i : Nat} {x : W32} (h : l[i]? = some x) : (wvs l).toArray[i]? = some (.int .u32 ((x.toNat : Nat) : Int)) := by
  simp [wvs, wv, h]

theorem heap_alloc_fst (w : World) (o1 o2 : Obj) : ((w.alloc o1).alloc o2).heap[w.heap.size]? = some o1 := (Below.heap_alloc _ _ _ (by simp)).trans (heap_alloc_new _ _)
theorem turned2 (x : W32) (a b : Nat) (ha : 1 ≤ a ∧ a ≤ 31) (hb : 1 ≤ b ∧ b ≤ 31) (W : World) (g : Nat) (h : W.heap[g]? = some (.cells #[.int .i64 (a : Int), .int .i64 (b : Int)] 3)) :
    Calls Try.prog 97 #[.int .u32 (x.toNat : Int), .slice (some ⟨g, 0, none⟩) 2 2] W (fun e w' => e = .returned (.int .u32 ((ror x a ^^^ ror x b).toNat : Int)) ∧ W = w') := by
  have := turned_any (c := 2) (A := some ⟨g, 0, none⟩) x (l := [a, b]) (by simp; omega) (by simp [maxLen]) W (Sl.new (n := 2) (sz := 1) h rfl)
  rw [trns2] at this
  exact this
theorem turned3 (x : W32) (a b d : Nat) (ha : 1 ≤ a ∧ a ≤ 31) (hb : 1 ≤ b ∧ b ≤ 31) (hd : 1 ≤ d ∧ d ≤ 31) (W : World) (g : Nat) (h : W.heap[g]? = some (.cells #[.int .i64 (a : Int), .int .i64 (b : Int), .int .i64 (d : Int)] 3)) :
    Calls Try.prog 97 #[.int .u32 (x.toNat : Int), .slice (some ⟨g, 0, none⟩) 3 3] W (fun e w' => e = .returned (.int .u32 ((ror x a ^^^ ror x b ^^^ ror x d).toNat : Int)) ∧ W = w') := by
  have := turned_any (c := 3) (A := some ⟨g, 0, none⟩) x (l := [a, b, d]) (by simp; omega) (by simp [maxLen]) W (Sl.new (n := 3) (sz := 1) h rfl)
  rw [trns3] at this
  exact this
set_option maxHeartbeats 4000000 in
set_option maxRecDepth 100000 in
theorem schedule_any {p : List UInt8} (hp : p.length = 64) {B c : Nat} {A : Option Addr} (hc : 64 ≤ c) (hcm : c ≤ maxLen) (w : World) (hB0 : B ≤ w.heap.size) (hs : Sl w B 1 A 64 (bvs p)) :
    Calls Try.prog 96 #[.slice A 64 c] w (Ret w (wsv (sch p 64))) := by
  unfold wsv
  simp only [maxLen] at hcm
  go_enter Try.func96, Try.ntmps96
  go_wp2_with (first
    | (refine wpList_new rfl w64Z rfl ?_)
    | fail)
  generalize hW : World.alloc (World.alloc w _) _ = W
  have bZ : W.heap[w.heap.size]? = some (.cells (wvs z64).toArray 153) := by rw [← hW]; exact (Below.heap_alloc _ _ _ (by simp)).trans (heap_alloc_new _ _)
  have bX : W.heap[w.heap.size + 1]? = some (.cells (wvs (schZ p 0)).toArray 153) := by rw [← hW, schZ_none]; exact heap_alloc_two _ _ _
  have hB : Below w.heap.size w W := by rw [← hW]; exact ((Below.refl _ _).alloc (Nat.le_refl _) _).alloc (by simp) _
  clear hW
  go_loopw [7] (fun i wr => ∃ t : Nat, i = .int .i64 t ∧ t ≤ 64 ∧ wr.heap[w.heap.size]? = some (.cells (wvs z64).toArray 153) ∧ wr.heap[w.heap.size + 1]? = some (.cells (wvs (schZ p t)).toArray 153) ∧ Below w.heap.size w wr) (fun i _ => 64 - (intOf i).toNat)
  case atStart => exact ⟨0, rfl, by omega, bZ, bX, hB⟩
  case round =>
    clear bZ bX hB
    obtain ⟨t, rfl, ht, bZ, bX, hB⟩ := hrel
    have hz1 : w.heap.size + 1 < wr.heap.size := (Array.getElem?_eq_some_iff.1 bX).1
    by_cases hlt : t < 64
    · have g1 : (t : Int) < 64 := by omega
      by_cases h16 : t < 16
      · have g2 : ¬ (16 : Int) ≤ t := by omega
        have hs1 := (hs.mono hB0).below hB
        obtain ⟨b, o, rfl, hb, hr⟩ := hs1.at_ (by omega)
        have hsz := schP_len p hlt
        go_wp2_with fail
        rename World => Wo
        go_loopw [57] (fun j wq => ∃ k : Nat, j = .int .i64 k ∧ k ≤ 4 ∧ wq.heap[w.heap.size + 1]? = some (.cells (wvs (schP p t k)).toArray 153) ∧ But Wo.heap.size (· = w.heap.size + 1) Wo wq) (fun j _ => 4 - (intOf j).toNat)
        case atStart => exact ⟨0, rfl, by omega, by rw [schP_none p hlt]; exact bX, But.refl _ _ _⟩
        case round =>
          obtain ⟨k, rfl, hk, gX, hbt⟩ := hrel
          by_cases hk4 : k < 4
          · have g3 : (k : Int) < 4 := by omega
            obtain ⟨q, hq⟩ : ∃ q, p[4 * t + k]? = some q := ⟨_, List.getElem?_eq_getElem (by omega)⟩
            have hqc : Wo.cell? ⟨b, o + (4 * t + k), none⟩ = some (.int .u8 (q.toNat : Int)) := hr (4 * t + k) _ (by unfold bvs; rw [List.getElem?_map, hq]; rfl)
            have hqr : wr.cell? ⟨b, o + 4 * t + k, none⟩ = some (.int .u8 (q.toNat : Int)) := by
              rw [Nat.add_assoc]
              exact (World.cell?_of_block (a := ⟨b, o + (4 * t + k), none⟩) (hbt.block b (by omega) (by omega))).trans hqc
            have c1 := blk_cell gX (wvs_at (schP_at p t k))
            have f1 := blk_frozen gX t
            have HS := Lib.hid (schP_set p t k)
            have HQ := Lib.hid (show word p t (k + 1) = word p t k <<< 8 ||| BitVec.ofNat 32 q.toNat by rw [word, byteOf, hq]; rfl)
            obtain ⟨v, hv⟩ : ∃ v, word p t k = v := ⟨_, rfl⟩
            rw [hv] at HQ c1
            clear hv hqc hq hr hs
            go_wp2_with fail
            have e : bits .or .u32 ((v.toNat : Int) * 256 % 4294967296) ((q.toNat : Int) % 4294967296) = ((word p t (k + 1)).toNat : Int) := by
              rw [HQ.out, show (256 : Int) = 2 ^ 8 from rfl, m_shl, m_of8, w_or]
            rw [e]
            exact ⟨⟨k + 1, by go_num, by omega, by rw [← HS.out, ← wvs_set]; exact blk_set gX t _, hbt.setp t _⟩, by simp [intOf]; omega⟩
          · obtain rfl : k = 4 := by omega
            have bX2 := gX
            rw [schP_all p h16] at bX2
            have bZ2 := hbt.blk (by omega) (by omega) bZ
            have hB2 := hB.trans (hbt.below (by omega) (fun j hj => by rw [hj]; exact Nat.le_succ _))
            clear hs hr
            go_wp2_with fail
            go_roundw
            case rel => exact ⟨t + 1, by go_num, by omega, bZ2, bX2, hB2⟩
            case measure => simp [intOf]; omega
      · have g2 : (16 : Int) ≤ t := by omega
        have hsz := schZ_len p ht
        obtain ⟨n2, hn2, l2⟩ : ∃ n : Nat, t - 2 = n ∧ (n : Int) < 64 := ⟨_, rfl, by omega⟩
        have w2 : IntKind.i64.wrap ((t : Int) - 2) = (n2 : Int) := by rw [wrap_small _ (by omega) (by omega)]; omega
        obtain ⟨n7, hn7, l7⟩ : ∃ n : Nat, t - 7 = n ∧ (n : Int) < 64 := ⟨_, rfl, by omega⟩
        have w7 : IntKind.i64.wrap ((t : Int) - 7) = (n7 : Int) := by rw [wrap_small _ (by omega) (by omega)]; omega
        obtain ⟨n15, hn15, l15⟩ : ∃ n : Nat, t - 15 = n ∧ (n : Int) < 64 := ⟨_, rfl, by omega⟩
        have w15 : IntKind.i64.wrap ((t : Int) - 15) = (n15 : Int) := by rw [wrap_small _ (by omega) (by omega)]; omega
        obtain ⟨n16, hn16, l16⟩ : ∃ n : Nat, t - 16 = n ∧ (n : Int) < 64 := ⟨_, rfl, by omega⟩
        have w16 : IntKind.i64.wrap ((t : Int) - 16) = (n16 : Int) := by rw [wrap_small _ (by omega) (by omega)]; omega
        have c1 := blk_cell bX (wvs_at (schZ_at p (t := t) (i := n2) (by omega)))
        have c2 := blk_cell bX (wvs_at (schZ_at p (t := t) (i := n7) (by omega)))
        have c3 := blk_cell bX (wvs_at (schZ_at p (t := t) (i := n15) (by omega)))
        have c4 := blk_cell bX (wvs_at (schZ_at p (t := t) (i := n16) (by omega)))
        have f1 := blk_frozen bX t
        have HN : Hid (schNext p t (sch p t) = sig1 (wAt (sch p t) n2) + wAt (sch p t) n7 + sig0 (wAt (sch p t) n15) + wAt (sch p t) n16) := Lib.hid (by unfold schNext; rw [if_neg h16, hn2, hn7, hn15, hn16])
        have HS := Lib.hid (schZ_set p hlt)
        generalize wAt (sch p t) n2 = x2 at *
        generalize wAt (sch p t) n7 = x7 at *
        generalize wAt (sch p t) n15 = x15 at *
        generalize wAt (sch p t) n16 = x16 at *
        clear hs
        have hx2 : (wvs (schZ p t)).toArray[n2]? = some (.int .u32 (x2.toNat : Int)) := by have := c1; rwa [cell_of_row _ _ _ _ _ (0, 0) bX] at this
        have hx7 : (wvs (schZ p t)).toArray[n7]? = some (.int .u32 (x7.toNat : Int)) := by have := c2; rwa [cell_of_row _ _ _ _ _ (0, 0) bX] at this
        have hx15 : (wvs (schZ p t)).toArray[n15]? = some (.int .u32 (x15.toNat : Int)) := by have := c3; rwa [cell_of_row _ _ _ _ _ (0, 0) bX] at this
        have hx16 : (wvs (schZ p t)).toArray[n16]? = some (.int .u32 (x16.toNat : Int)) := by have := c4; rwa [cell_of_row _ _ _ _ _ (0, 0) bX] at this
        let S : World → Prop := fun w' => w'.cell? ⟨w.heap.size + 1, n2, none⟩ = some (.int .u32 (x2.toNat : Int)) ∧ w'.cell? ⟨w.heap.size + 1, n7, none⟩ = some (.int .u32 (x7.toNat : Int)) ∧ w'.cell? ⟨w.heap.size + 1, n15, none⟩ = some (.int .u32 (x15.toNat : Int)) ∧ w'.cell? ⟨w.heap.size + 1, n16, none⟩ = some (.int .u32 (x16.toNat : Int))
        have hS0 : S wr.drew := ⟨c1, c2, c3, c4⟩
        have hSS : ∀ w' : World, w'.heap[w.heap.size + 1]? = wr.heap[w.heap.size + 1]? → S w' := fun w' h => ⟨(World.cell?_of_block (a := ⟨w.heap.size + 1, n2, none⟩) h).trans c1, (World.cell?_of_block (a := ⟨w.heap.size + 1, n7, none⟩) h).trans c2, (World.cell?_of_block (a := ⟨w.heap.size + 1, n15, none⟩) h).trans c3, (World.cell?_of_block (a := ⟨w.heap.size + 1, n16, none⟩) h).trans c4⟩
        have eA : ∀ o : Obj, (wr.drew.alloc o).heap[w.heap.size + 1]? = wr.heap[w.heap.size + 1]? := fun o => Below.heap_alloc _ _ _ hz1
        have eB : ∀ o o' : Obj, ((wr.drew.alloc o).alloc o').heap[w.heap.size + 1]? = wr.heap[w.heap.size + 1]? := fun o o' => (Below.heap_alloc _ _ _ (by rw [World.size_alloc]; show _ < wr.heap.size + 1; omega)).trans (eA o)
        have bV : ∀ o o' : Obj, ((wr.alloc o).alloc o').heap[w.heap.size + 1]? = some (.cells (wvs (schZ p t)).toArray 153) := fun o o' => (Below.heap_alloc _ _ _ (by rw [World.size_alloc]; omega)).trans ((Below.heap_alloc _ _ _ hz1).trans bX)
        have hzc : (wvs (schZ p t)).toArray[t]? = some (.int .u32 (((0 : W32).toNat : Nat) : Int)) := wvs_at (by rw [schZ_cons p hlt, List.getElem?_append_right (by rw [sch_len]; omega), sch_len, Nat.sub_self]; rfl)
        have HC := Lib.hid (fun o o' => blk_cell (bV o o') hzc)
        have HF := Lib.hid (fun o o' => blk_frozen (bV o o') t)
        clear hzc
        have hSX : ∀ V : World, V.heap[w.heap.size + 1]? = some (.cells (wvs (schZ p t)).toArray 153) → ∀ v, S (V.setCell ⟨w.heap.size + 1, t, none⟩ v) := fun V hV v =>
          ⟨blk_cell (blk_set hV t v) (by rw [Array.getElem?_setIfInBounds_ne (by omega)]; exact hx2), blk_cell (blk_set hV t v) (by rw [Array.getElem?_setIfInBounds_ne (by omega)]; exact hx7), blk_cell (blk_set hV t v) (by rw [Array.getElem?_setIfInBounds_ne (by omega)]; exact hx15), blk_cell (blk_set hV t v) (by rw [Array.getElem?_setIfInBounds_ne (by omega)]; exact hx16)⟩
        have HSX := Lib.hid hSX
        have HV := Lib.hid bV
        clear hSX bV hx2 hx7 hx15 hx16
        obtain ⟨rA, hrA⟩ : ∃ r, ror x2 17 ^^^ ror x2 19 = r := ⟨_, rfl⟩
        obtain ⟨rB, hrB⟩ : ∃ r, ror x15 7 ^^^ ror x15 18 = r := ⟨_, rfl⟩
        have hA := fun W g h => turned2 x2 17 19 (by omega) (by omega) W g h
        have hB' := fun W g h => turned2 x15 7 18 (by omega) (by omega) W g h
        rw [hrA] at hA
        rw [hrB] at hB'
        unfold sig1 sig0 at HN
        rw [hrA, hrB] at HN
        clear hrA hrB
        have HE : Hid ((((bits .xor .u32 (rA.toNat : Int) ((x2.toNat : Int) / 1024) + (x7.toNat : Int)) % 4294967296 + bits .xor .u32 (rB.toNat : Int) ((x15.toNat : Int) / 8)) % 4294967296 + (x16.toNat : Int)) % 4294967296 = ((schNext p t (sch p t)).toNat : Int)) := Lib.hid (by
          rw [HN.out, show (1024 : Int) = 2 ^ 10 from rfl, show (8 : Int) = 2 ^ 3 from rfl, w_shr, w_shr, w_xor, w_xor, m_add, m_add, m_add])
        have HZ : Hid (∀ o o' : Obj, ((wr.alloc o).alloc o').heap[w.heap.size]? = some (.cells (wvs z64).toArray 153)) := Lib.hid (fun o o' => (Below.heap_alloc _ _ _ (by rw [World.size_alloc]; omega)).trans ((Below.heap_alloc _ _ _ (by omega)).trans bZ))
        go_upto_region 6 with (fail)
        refine wp_region_held (S := S) (by kernel_rfl) ?_
        change wpAnyH _ _ _ _ S _ _ _ wr.drew
        refine wpAnyH_take (i := 0) (oi := ?oi_37) (v := ?v_37) ?ho_37 ?h1_37 ?h2_37 ?h3_37 ?hq_37 (Or.inl ⟨?hw_37, ?hy_37⟩) ?hs_37 ?rest_37; (case h2_37 => kernel_rfl); (case h3_37 => kernel_rfl); (case ho_37 => (simp only [List.getElem?_toArray, List.getElem?_cons_zero, List.getElem?_cons_succ]; rfl)); (case h1_37 => kernel_rfl); (case hq_37 => exact fun _ _ _ h => h); (case hw_37 => rfl); (case hy_37 => (intro w' hSw; (try simp only [S] at hSw); go_simp; (try with_reducible rfl))); (case hs_37 => assumption); (try simp only [Act.put, List.setIfInBounds_toArray, List.set_cons_zero, List.set_cons_succ])
        refine wpAnyH_take (i := 1) (oi := ?oi_38) (v := ?v_38) ?ho_38 ?h1_38 ?h2_38 ?h3_38 ?hq_38 (Or.inl ⟨?hw_38, ?hy_38⟩) ?hs_38 ?rest_38; (case h2_38 => kernel_rfl); (case h3_38 => kernel_rfl); (case ho_38 => (simp only [List.getElem?_toArray, List.getElem?_cons_zero, List.getElem?_cons_succ]; rfl)); (case h1_38 => kernel_rfl); (case hq_38 => exact fun _ _ _ h => h); (case hw_38 => rfl); (case hy_38 => (intro w' hSw; (try simp only [S] at hSw); go_simp; (try with_reducible rfl))); (case hs_38 => assumption); (try simp only [Act.put, List.setIfInBounds_toArray, List.set_cons_zero, List.set_cons_succ])
        refine wpAnyH_take (i := 2) (oi := ?oi_39) (v := ?v_39) ?ho_39 ?h1_39 ?h2_39 ?h3_39 ?hq_39 (Or.inl ⟨?hw_39, ?hy_39⟩) ?hs_39 ?rest_39; (case h2_39 => kernel_rfl); (case h3_39 => kernel_rfl); (case ho_39 => (simp only [List.getElem?_toArray, List.getElem?_cons_zero, List.getElem?_cons_succ]; rfl)); (case h1_39 => kernel_rfl); (case hq_39 => exact fun _ _ _ h => h); (case hw_39 => rfl); (case hy_39 => (intro w' hSw; (try simp only [S] at hSw); go_simp; (try with_reducible rfl))); (case hs_39 => assumption); (try simp only [Act.put, List.setIfInBounds_toArray, List.set_cons_zero, List.set_cons_succ])
        refine wpAnyH_take (i := 3) (oi := ?oi_40) (v := ?v_40) ?ho_40 ?h1_40 ?h2_40 ?h3_40 ?hq_40 (Or.inl ⟨?hw_40, ?hy_40⟩) ?hs_40 ?rest_40; (case h2_40 => kernel_rfl); (case h3_40 => kernel_rfl); (case ho_40 => (simp only [List.getElem?_toArray, List.getElem?_cons_zero, List.getElem?_cons_succ]; rfl)); (case h1_40 => kernel_rfl); (case hq_40 => exact fun _ _ _ h => h); (case hw_40 => rfl); (case hy_40 => (intro w' hSw; (try simp only [S] at hSw); go_simp; (try with_reducible rfl))); (case hs_40 => assumption); (try simp only [Act.put, List.setIfInBounds_toArray, List.set_cons_zero, List.set_cons_succ])
        refine wpAnyH_take (i := 4) (oi := ?oi_41) (v := ?v_41) ?ho_41 ?h1_41 ?h2_41 ?h3_41 ?hq_41 (Or.inl ⟨?hw_41, ?hy_41⟩) ?hs_41 ?rest_41; (case h2_41 => kernel_rfl); (case h3_41 => kernel_rfl); (case ho_41 => (simp only [List.getElem?_toArray, List.getElem?_cons_zero, List.getElem?_cons_succ]; rfl)); (case h1_41 => kernel_rfl); (case hq_41 => exact fun _ _ _ h => h); (case hw_41 => rfl); (case hy_41 => (intro w' hSw; (try simp only [S] at hSw); go_simp; (try with_reducible rfl))); (case hs_41 => assumption); (try simp only [Act.put, List.setIfInBounds_toArray, List.set_cons_zero, List.set_cons_succ])
        refine wpAnyH_take (i := 7) (oi := ?oi_42) (v := ?v_42) ?ho_42 ?h1_42 ?h2_42 ?h3_42 ?hq_42 (Or.inl ⟨?hw_42, ?hy_42⟩) ?hs_42 ?rest_42; (case h2_42 => kernel_rfl); (case h3_42 => kernel_rfl); (case ho_42 => (simp only [List.getElem?_toArray, List.getElem?_cons_zero, List.getElem?_cons_succ]; rfl)); (case h1_42 => kernel_rfl); (case hq_42 => exact fun _ _ _ h => h); (case hw_42 => rfl); (case hy_42 => (intro w' hSw; (try simp only [S] at hSw); go_simp; (try with_reducible rfl))); (case hs_42 => assumption); (try simp only [Act.put, List.setIfInBounds_toArray, List.set_cons_zero, List.set_cons_succ])
        refine wpAnyH_take (i := 8) (oi := ?oi_43) (v := ?v_43) ?ho_43 ?h1_43 ?h2_43 ?h3_43 ?hq_43 (Or.inl ⟨?hw_43, ?hy_43⟩) ?hs_43 ?rest_43; (case h2_43 => kernel_rfl); (case h3_43 => kernel_rfl); (case ho_43 => (simp only [List.getElem?_toArray, List.getElem?_cons_zero, List.getElem?_cons_succ]; rfl)); (case h1_43 => kernel_rfl); (case hq_43 => exact fun _ _ _ h => h); (case hw_43 => rfl); (case hy_43 => (intro w' hSw; (try simp only [S] at hSw); go_simp; (try with_reducible rfl))); (case hs_43 => assumption); (try simp only [Act.put, List.setIfInBounds_toArray, List.set_cons_zero, List.set_cons_succ])
        refine wpAnyH_take (i := 9) (oi := ?oi_44) (v := ?v_44) ?ho_44 ?h1_44 ?h2_44 ?h3_44 ?hq_44 (Or.inl ⟨?hw_44, ?hy_44⟩) ?hs_44 ?rest_44; (case h2_44 => kernel_rfl); (case h3_44 => kernel_rfl); (case ho_44 => (simp only [List.getElem?_toArray, List.getElem?_cons_zero, List.getElem?_cons_succ]; rfl)); (case h1_44 => kernel_rfl); (case hq_44 => exact fun _ _ _ h => h); (case hw_44 => rfl); (case hy_44 => (intro w' hSw; (try simp only [S] at hSw); go_simp; (try with_reducible rfl))); (case hs_44 => assumption); (try simp only [Act.put, List.setIfInBounds_toArray, List.set_cons_zero, List.set_cons_succ])
        refine wpAnyH_take (i := 10) (oi := ?oi_45) (v := ?v_45) ?ho_45 ?h1_45 ?h2_45 ?h3_45 ?hq_45 (Or.inl ⟨?hw_45, ?hy_45⟩) ?hs_45 ?rest_45; (case h2_45 => kernel_rfl); (case h3_45 => kernel_rfl); (case ho_45 => (simp only [List.getElem?_toArray, List.getElem?_cons_zero, List.getElem?_cons_succ]; rfl)); (case h1_45 => kernel_rfl); (case hq_45 => exact fun _ _ _ h => h); (case hw_45 => rfl); (case hy_45 => (intro w' hSw; (try simp only [S] at hSw); go_simp; (try with_reducible rfl))); (case hs_45 => assumption); (try simp only [Act.put, List.setIfInBounds_toArray, List.set_cons_zero, List.set_cons_succ])
        refine wpAnyH_take (i := 11) (oi := ?oi_46) (v := ?v_46) ?ho_46 ?h1_46 ?h2_46 ?h3_46 ?hq_46 (Or.inl ⟨?hw_46, ?hy_46⟩) ?hs_46 ?rest_46; (case h2_46 => kernel_rfl); (case h3_46 => kernel_rfl); (case ho_46 => (simp only [List.getElem?_toArray, List.getElem?_cons_zero, List.getElem?_cons_succ]; rfl)); (case h1_46 => kernel_rfl); (case hq_46 => exact fun _ _ _ h => h); (case hw_46 => rfl); (case hy_46 => (intro w' hSw; (try simp only [S] at hSw); go_simp; (try with_reducible rfl))); (case hs_46 => assumption); (try simp only [Act.put, List.setIfInBounds_toArray, List.set_cons_zero, List.set_cons_succ])
        refine wpAnyH_take (i := 13) (oi := ?oi_47) (v := ?v_47) ?ho_47 ?h1_47 ?h2_47 ?h3_47 ?hq_47 (Or.inl ⟨?hw_47, ?hy_47⟩) ?hs_47 ?rest_47; (case h2_47 => kernel_rfl); (case h3_47 => kernel_rfl); (case ho_47 => (simp only [List.getElem?_toArray, List.getElem?_cons_zero, List.getElem?_cons_succ]; rfl)); (case h1_47 => kernel_rfl); (case hq_47 => exact fun _ _ _ h => h); (case hw_47 => rfl); (case hy_47 => (intro w' hSw; (try simp only [S] at hSw); go_simp; (try with_reducible rfl))); (case hs_47 => assumption); (try simp only [Act.put, List.setIfInBounds_toArray, List.set_cons_zero, List.set_cons_succ])
        refine wpAnyH_take (i := 14) (oi := ?oi_48) (v := ?v_48) ?ho_48 ?h1_48 ?h2_48 ?h3_48 ?hq_48 (Or.inl ⟨?hw_48, ?hy_48⟩) ?hs_48 ?rest_48; (case h2_48 => kernel_rfl); (case h3_48 => kernel_rfl); (case ho_48 => (simp only [List.getElem?_toArray, List.getElem?_cons_zero, List.getElem?_cons_succ]; rfl)); (case h1_48 => kernel_rfl); (case hq_48 => exact fun _ _ _ h => h); (case hw_48 => rfl); (case hy_48 => (intro w' hSw; (try simp only [S] at hSw); go_simp; (try with_reducible rfl))); (case hs_48 => assumption); (try simp only [Act.put, List.setIfInBounds_toArray, List.set_cons_zero, List.set_cons_succ])
        refine wpAnyH_take (i := 15) (oi := ?oi_49) (v := ?v_49) ?ho_49 ?h1_49 ?h2_49 ?h3_49 ?hq_49 (Or.inl ⟨?hw_49, ?hy_49⟩) ?hs_49 ?rest_49; (case h2_49 => kernel_rfl); (case h3_49 => kernel_rfl); (case ho_49 => (simp only [List.getElem?_toArray, List.getElem?_cons_zero, List.getElem?_cons_succ]; rfl)); (case h1_49 => kernel_rfl); (case hq_49 => exact fun _ _ _ h => h); (case hw_49 => rfl); (case hy_49 => (intro w' hSw; (try simp only [S] at hSw); go_simp; (try with_reducible rfl))); (case hs_49 => assumption); (try simp only [Act.put, List.setIfInBounds_toArray, List.set_cons_zero, List.set_cons_succ])
        refine wpAnyH_take (i := 16) (oi := ?oi_50) (v := ?v_50) ?ho_50 ?h1_50 ?h2_50 ?h3_50 ?hq_50 (Or.inl ⟨?hw_50, ?hy_50⟩) ?hs_50 ?rest_50; (case h2_50 => kernel_rfl); (case h3_50 => kernel_rfl); (case ho_50 => (simp only [List.getElem?_toArray, List.getElem?_cons_zero, List.getElem?_cons_succ]; rfl)); (case h1_50 => kernel_rfl); (case hq_50 => exact fun _ _ _ h => h); (case hw_50 => rfl); (case hy_50 => (intro w' hSw; (try simp only [S] at hSw); go_simp; (try with_reducible rfl))); (case hs_50 => assumption); (try simp only [Act.put, List.setIfInBounds_toArray, List.set_cons_zero, List.set_cons_succ])
        refine wpAnyH_take (i := 18) (oi := ?oi_51) (v := ?v_51) ?ho_51 ?h1_51 ?h2_51 ?h3_51 ?hq_51 (Or.inl ⟨?hw_51, ?hy_51⟩) ?hs_51 ?rest_51; (case h2_51 => kernel_rfl); (case h3_51 => kernel_rfl); (case ho_51 => (simp only [List.getElem?_toArray, List.getElem?_cons_zero, List.getElem?_cons_succ]; rfl)); (case h1_51 => kernel_rfl); (case hq_51 => exact fun _ _ _ h => h); (case hw_51 => rfl); (case hy_51 => (intro w' hSw; (try simp only [S] at hSw); go_simp; (try with_reducible rfl))); (case hs_51 => assumption); (try simp only [Act.put, List.setIfInBounds_toArray, List.set_cons_zero, List.set_cons_succ])
        refine wpAnyH_take (i := 19) (oi := ?oi_52) (v := ?v_52) ?ho_52 ?h1_52 ?h2_52 ?h3_52 ?hq_52 (Or.inl ⟨?hw_52, ?hy_52⟩) ?hs_52 ?rest_52; (case h2_52 => kernel_rfl); (case h3_52 => kernel_rfl); (case ho_52 => (simp only [List.getElem?_toArray, List.getElem?_cons_zero, List.getElem?_cons_succ]; rfl)); (case h1_52 => kernel_rfl); (case hq_52 => exact fun _ _ _ h => h); (case hw_52 => rfl); (case hy_52 => (intro w' hSw; (try simp only [S] at hSw); go_simp; (try with_reducible rfl))); (case hs_52 => assumption); (try simp only [Act.put, List.setIfInBounds_toArray, List.set_cons_zero, List.set_cons_succ])
        refine wpAnyH_take (i := 20) (oi := ?oi_53) (v := ?v_53) ?ho_53 ?h1_53 ?h2_53 ?h3_53 ?hq_53 (Or.inl ⟨?hw_53, ?hy_53⟩) ?hs_53 ?rest_53; (case h2_53 => kernel_rfl); (case h3_53 => kernel_rfl); (case ho_53 => (simp only [List.getElem?_toArray, List.getElem?_cons_zero, List.getElem?_cons_succ]; rfl)); (case h1_53 => kernel_rfl); (case hq_53 => exact fun _ _ _ h => h); (case hw_53 => rfl); (case hy_53 => (intro w' hSw; (try simp only [S] at hSw); go_simp; (try with_reducible rfl))); (case hs_53 => assumption); (try simp only [Act.put, List.setIfInBounds_toArray, List.set_cons_zero, List.set_cons_succ])
        refine wpAnyH_take (i := 21) (oi := ?oi_54) (v := ?v_54) ?ho_54 ?h1_54 ?h2_54 ?h3_54 ?hq_54 (Or.inl ⟨?hw_54, ?hy_54⟩) ?hs_54 ?rest_54; (case h2_54 => kernel_rfl); (case h3_54 => kernel_rfl); (case ho_54 => (simp only [List.getElem?_toArray, List.getElem?_cons_zero, List.getElem?_cons_succ]; rfl)); (case h1_54 => kernel_rfl); (case hq_54 => exact fun _ _ _ h => h); (case hw_54 => rfl); (case hy_54 => (intro w' hSw; (try simp only [S] at hSw); go_simp; (try with_reducible rfl))); (case hs_54 => assumption); (try simp only [Act.put, List.setIfInBounds_toArray, List.set_cons_zero, List.set_cons_succ])
        refine wpAnyH_take (i := 24) (oi := ?oi_55) (v := ?v_55) ?ho_55 ?h1_55 ?h2_55 ?h3_55 ?hq_55 (Or.inl ⟨?hw_55, ?hy_55⟩) ?hs_55 ?rest_55; (case h2_55 => kernel_rfl); (case h3_55 => kernel_rfl); (case ho_55 => (simp only [List.getElem?_toArray, List.getElem?_cons_zero, List.getElem?_cons_succ]; rfl)); (case h1_55 => kernel_rfl); (case hq_55 => exact fun _ _ _ h => h); (case hw_55 => rfl); (case hy_55 => (intro w' hSw; (try simp only [S] at hSw); go_simp; (try with_reducible rfl))); (case hs_55 => assumption); (try simp only [Act.put, List.setIfInBounds_toArray, List.set_cons_zero, List.set_cons_succ])
        refine wpAnyH_take (i := 25) (oi := ?oi_56) (v := ?v_56) ?ho_56 ?h1_56 ?h2_56 ?h3_56 ?hq_56 (Or.inl ⟨?hw_56, ?hy_56⟩) ?hs_56 ?rest_56; (case h2_56 => kernel_rfl); (case h3_56 => kernel_rfl); (case ho_56 => (simp only [List.getElem?_toArray, List.getElem?_cons_zero, List.getElem?_cons_succ]; rfl)); (case h1_56 => kernel_rfl); (case hq_56 => exact fun _ _ _ h => h); (case hw_56 => rfl); (case hy_56 => (intro w' hSw; (try simp only [S] at hSw); go_simp; (try with_reducible rfl))); (case hs_56 => assumption); (try simp only [Act.put, List.setIfInBounds_toArray, List.set_cons_zero, List.set_cons_succ])
        refine wpAnyH_take (i := 26) (oi := ?oi_57) (v := ?v_57) ?ho_57 ?h1_57 ?h2_57 ?h3_57 ?hq_57 (Or.inl ⟨?hw_57, ?hy_57⟩) ?hs_57 ?rest_57; (case h2_57 => kernel_rfl); (case h3_57 => kernel_rfl); (case ho_57 => (simp only [List.getElem?_toArray, List.getElem?_cons_zero, List.getElem?_cons_succ]; rfl)); (case h1_57 => kernel_rfl); (case hq_57 => exact fun _ _ _ h => h); (case hw_57 => rfl); (case hy_57 => (intro w' hSw; (try simp only [S] at hSw); go_simp; (try with_reducible rfl))); (case hs_57 => assumption); (try simp only [Act.put, List.setIfInBounds_toArray, List.set_cons_zero, List.set_cons_succ])
        refine wpAnyH_take (i := 27) (oi := ?oi_58) (v := ?v_58) ?ho_58 ?h1_58 ?h2_58 ?h3_58 ?hq_58 (Or.inl ⟨?hw_58, ?hy_58⟩) ?hs_58 ?rest_58; (case h2_58 => kernel_rfl); (case h3_58 => kernel_rfl); (case ho_58 => (simp only [List.getElem?_toArray, List.getElem?_cons_zero, List.getElem?_cons_succ]; rfl)); (case h1_58 => kernel_rfl); (case hq_58 => exact fun _ _ _ h => h); (case hw_58 => rfl); (case hy_58 => (intro w' hSw; (try simp only [S] at hSw); go_simp; (try with_reducible rfl))); (case hs_58 => assumption); (try simp only [Act.put, List.setIfInBounds_toArray, List.set_cons_zero, List.set_cons_succ])
        refine wpAnyH_take (i := 28) (oi := ?oi_59) (v := ?v_59) ?ho_59 ?h1_59 ?h2_59 ?h3_59 ?hq_59 (Or.inl ⟨?hw_59, ?hy_59⟩) ?hs_59 ?rest_59; (case h2_59 => kernel_rfl); (case h3_59 => kernel_rfl); (case ho_59 => (simp only [List.getElem?_toArray, List.getElem?_cons_zero, List.getElem?_cons_succ]; rfl)); (case h1_59 => kernel_rfl); (case hq_59 => exact fun _ _ _ h => h); (case hw_59 => rfl); (case hy_59 => (intro w' hSw; (try simp only [S] at hSw); go_simp; (try with_reducible rfl))); (case hs_59 => assumption); (try simp only [Act.put, List.setIfInBounds_toArray, List.set_cons_zero, List.set_cons_succ])
        refine wpAnyH_take (i := 31) (oi := ?oi_60) (v := ?v_60) ?ho_60 ?h1_60 ?h2_60 ?h3_60 ?hq_60 (Or.inl ⟨?hw_60, ?hy_60⟩) ?hs_60 ?rest_60; (case h2_60 => kernel_rfl); (case h3_60 => kernel_rfl); (case ho_60 => (simp only [List.getElem?_toArray, List.getElem?_cons_zero, List.getElem?_cons_succ]; rfl)); (case h1_60 => kernel_rfl); (case hq_60 => exact fun _ _ _ h => h); (case hw_60 => rfl); (case hy_60 => (intro w' hSw; (try simp only [S] at hSw); go_simp; (try with_reducible rfl))); (case hs_60 => assumption); (try simp only [Act.put, List.setIfInBounds_toArray, List.set_cons_zero, List.set_cons_succ])
        refine wpAnyH_take (i := 32) (oi := ?oi_61) (v := ?v_61) ?ho_61 ?h1_61 ?h2_61 ?h3_61 ?hq_61 (Or.inl ⟨?hw_61, ?hy_61⟩) ?hs_61 ?rest_61; (case h2_61 => kernel_rfl); (case h3_61 => kernel_rfl); (case ho_61 => (simp only [List.getElem?_toArray, List.getElem?_cons_zero, List.getElem?_cons_succ]; rfl)); (case h1_61 => kernel_rfl); (case hq_61 => exact fun _ _ _ h => h); (case hw_61 => rfl); (case hy_61 => (intro w' hSw; (try simp only [S] at hSw); go_simp; (try with_reducible rfl))); (case hs_61 => assumption); (try simp only [Act.put, List.setIfInBounds_toArray, List.set_cons_zero, List.set_cons_succ])
        refine wpAnyH_take (i := 33) (oi := ?oi_62) (v := ?v_62) ?ho_62 ?h1_62 ?h2_62 ?h3_62 ?hq_62 (Or.inl ⟨?hw_62, ?hy_62⟩) ?hs_62 ?rest_62; (case h2_62 => kernel_rfl); (case h3_62 => kernel_rfl); (case ho_62 => (simp only [List.getElem?_toArray, List.getElem?_cons_zero, List.getElem?_cons_succ]; rfl)); (case h1_62 => kernel_rfl); (case hq_62 => exact fun _ _ _ h => h); (case hw_62 => rfl); (case hy_62 => (intro w' hSw; (try simp only [S] at hSw); go_simp; (try with_reducible rfl))); (case hs_62 => assumption); (try simp only [Act.put, List.setIfInBounds_toArray, List.set_cons_zero, List.set_cons_succ])
        refine wpAnyH_take (i := 34) (oi := ?oi_63) (v := ?v_63) ?ho_63 ?h1_63 ?h2_63 ?h3_63 ?hq_63 (Or.inl ⟨?hw_63, ?hy_63⟩) ?hs_63 ?rest_63; (case h2_63 => kernel_rfl); (case h3_63 => kernel_rfl); (case ho_63 => (simp only [List.getElem?_toArray, List.getElem?_cons_zero, List.getElem?_cons_succ]; rfl)); (case h1_63 => kernel_rfl); (case hq_63 => exact fun _ _ _ h => h); (case hw_63 => rfl); (case hy_63 => (intro w' hSw; (try simp only [S] at hSw); go_simp; (try with_reducible rfl))); (case hs_63 => assumption); (try simp only [Act.put, List.setIfInBounds_toArray, List.set_cons_zero, List.set_cons_succ])
        refine wpAnyH_ready (rs := [5, 22]) (by kernel_rfl) (by simp) (AllReadyH.cons (o := ?oo5_82) ?hoo5_82 (fun K hK => ?step5) (AllReadyH.cons (o := ?oo22_82) ?hoo22_82 (fun K hK => ?step22) AllReadyH.nil)); (case hoo5_82 => (simp only [List.getElem?_toArray, List.getElem?_cons_zero, List.getElem?_cons_succ]; rfl)); (case hoo22_82 => (simp only [List.getElem?_toArray, List.getElem?_cons_zero, List.getElem?_cons_succ]; rfl))
        case step5 =>
          go_simp
          refine hK.out _ _ (hSS _ (eA _)) (fun _ => ?_)
          clear hK K
          (try simp only [Act.put, List.setIfInBounds_toArray, List.set_cons_zero, List.set_cons_succ])
          refine wpAnyH_ready (rs := [6, 22]) (by kernel_rfl) (by simp) (AllReadyH.cons (o := ?oo6_83) ?hoo6_83 (fun K hK => ?stepB6) (AllReadyH.cons (o := ?oo22_83) ?hoo22_83 (fun K hK => ?stepB22) AllReadyH.nil)); (case hoo6_83 => (simp only [List.getElem?_toArray, List.getElem?_cons_zero, List.getElem?_cons_succ]; rfl)); (case hoo22_83 => (simp only [List.getElem?_toArray, List.getElem?_cons_zero, List.getElem?_cons_succ]; rfl))
          case stepB6 =>
            go_simp
            refine Calls.mono (hA _ _ ?_) ?_
            · exact heap_alloc_new wr _
            rintro e _ ⟨rfl, rfl⟩
            refine hK.out _ _ (hSS _ (eA _)) (fun _ => ?_)
            clear hK K
            (try simp only [Act.put, List.setIfInBounds_toArray, List.set_cons_zero, List.set_cons_succ])
            refine wpAnyH_take (i := 12) (oi := ?oi_64) (v := ?v_64) ?ho_64 ?h1_64 ?h2_64 ?h3_64 ?hq_64 (Or.inl ⟨?hw_64, ?hy_64⟩) ?hs_64 ?rest_64; (case h2_64 => kernel_rfl); (case h3_64 => kernel_rfl); (case ho_64 => (simp only [List.getElem?_toArray, List.getElem?_cons_zero, List.getElem?_cons_succ]; rfl)); (case h1_64 => kernel_rfl); (case hq_64 => exact fun _ _ _ h => h); (case hw_64 => rfl); (case hy_64 => (intro w' hSw; (try simp only [S] at hSw); go_simp; (try with_reducible rfl))); (case hs_64 => assumption); (try simp only [Act.put, List.setIfInBounds_toArray, List.set_cons_zero, List.set_cons_succ])
            refine wpAnyH_take (i := 17) (oi := ?oi_65) (v := ?v_65) ?ho_65 ?h1_65 ?h2_65 ?h3_65 ?hq_65 (Or.inl ⟨?hw_65, ?hy_65⟩) ?hs_65 ?rest_65; (case h2_65 => kernel_rfl); (case h3_65 => kernel_rfl); (case ho_65 => (simp only [List.getElem?_toArray, List.getElem?_cons_zero, List.getElem?_cons_succ]; rfl)); (case h1_65 => kernel_rfl); (case hq_65 => exact fun _ _ _ h => h); (case hw_65 => rfl); (case hy_65 => (intro w' hSw; (try simp only [S] at hSw); go_simp; (try with_reducible rfl))); (case hs_65 => assumption); (try simp only [Act.put, List.setIfInBounds_toArray, List.set_cons_zero, List.set_cons_succ])
            refine wpAnyH_ready (rs := [22]) (by kernel_rfl) (by simp) (AllReadyH.cons (o := ?oo22_84) ?hoo22_84 (fun K hK => ?steponly84) AllReadyH.nil); (case hoo22_84 => (simp only [List.getElem?_toArray, List.getElem?_cons_zero, List.getElem?_cons_succ]; rfl))
            go_simp
            refine hK.out _ _ (hSS _ (eB _ _)) (fun _ => ?_)
            clear hK K
            (try simp only [Act.put, List.setIfInBounds_toArray, List.set_cons_zero, List.set_cons_succ])
            refine wpAnyH_ready (rs := [23]) (by kernel_rfl) (by simp) (AllReadyH.cons (o := ?oo23_85) ?hoo23_85 (fun K hK => ?steponly85) AllReadyH.nil); (case hoo23_85 => (simp only [List.getElem?_toArray, List.getElem?_cons_zero, List.getElem?_cons_succ]; rfl))
            go_simp
            refine Calls.mono (hB' _ _ ?_) ?_
            · exact heap_alloc_two wr _ _
            rintro e _ ⟨rfl, rfl⟩
            refine hK.out _ _ (hSS _ (eB _ _)) (fun _ => ?_)
            clear hK K
            (try simp only [Act.put, List.setIfInBounds_toArray, List.set_cons_zero, List.set_cons_succ])
            have k1 := HC.out (.cells #[.int .i64 17, .int .i64 19] 3) (.cells #[.int .i64 7, .int .i64 18] 3)
            have k2 := HF.out (.cells #[.int .i64 17, .int .i64 19] 3) (.cells #[.int .i64 7, .int .i64 18] 3)
            refine wpAnyH_take (i := 29) (oi := ?oi_66) (v := ?v_66) ?ho_66 ?h1_66 ?h2_66 ?h3_66 ?hq_66 (Or.inl ⟨?hw_66, ?hy_66⟩) ?hs_66 ?rest_66; (case h2_66 => kernel_rfl); (case h3_66 => kernel_rfl); (case ho_66 => (simp only [List.getElem?_toArray, List.getElem?_cons_zero, List.getElem?_cons_succ]; rfl)); (case h1_66 => kernel_rfl); (case hq_66 => exact fun _ _ _ h => h); (case hw_66 => rfl); (case hy_66 => (intro w' hSw; (try simp only [S] at hSw); go_simp; (try with_reducible rfl))); (case hs_66 => assumption); (try simp only [Act.put, List.setIfInBounds_toArray, List.set_cons_zero, List.set_cons_succ])
            refine wpAnyH_take (i := 30) (oi := ?oi_67) (v := ?v_67) ?ho_67 ?h1_67 ?h2_67 ?h3_67 ?hq_67 (Or.inl ⟨?hw_67, ?hy_67⟩) ?hs_67 ?rest_67; (case h2_67 => kernel_rfl); (case h3_67 => kernel_rfl); (case ho_67 => (simp only [List.getElem?_toArray, List.getElem?_cons_zero, List.getElem?_cons_succ]; rfl)); (case h1_67 => kernel_rfl); (case hq_67 => exact fun _ _ _ h => h); (case hw_67 => rfl); (case hy_67 => (intro w' hSw; (try simp only [S] at hSw); go_simp; (try with_reducible rfl))); (case hs_67 => assumption); (try simp only [Act.put, List.setIfInBounds_toArray, List.set_cons_zero, List.set_cons_succ])
            refine wpAnyH_take (i := 35) (oi := ?oi_68) (v := ?v_68) ?ho_68 ?h1_68 ?h2_68 ?h3_68 ?hq_68 (Or.inl ⟨?hw_68, ?hy_68⟩) ?hs_68 ?rest_68; (case h2_68 => kernel_rfl); (case h3_68 => kernel_rfl); (case ho_68 => (simp only [List.getElem?_toArray, List.getElem?_cons_zero, List.getElem?_cons_succ]; rfl)); (case h1_68 => kernel_rfl); (case hq_68 => exact fun _ _ _ h => h); (case hw_68 => rfl); (case hy_68 => (intro w' hSw; (try simp only [S] at hSw); go_simp; (try with_reducible rfl))); (case hs_68 => assumption); (try simp only [Act.put, List.setIfInBounds_toArray, List.set_cons_zero, List.set_cons_succ])
            refine wpAnyH_take (i := 36) (oi := ?oi_69) (v := ?v_69) ?ho_69 ?h1_69 ?h2_69 ?h3_69 ?hq_69 (Or.inl ⟨?hw_69, ?hy_69⟩) ?hs_69 ?rest_69; (case h2_69 => kernel_rfl); (case h3_69 => kernel_rfl); (case ho_69 => (simp only [List.getElem?_toArray, List.getElem?_cons_zero, List.getElem?_cons_succ]; rfl)); (case h1_69 => kernel_rfl); (case hq_69 => exact fun _ _ _ h => h); (case hw_69 => rfl); (case hy_69 => (intro w' hSw; (try simp only [S] at hSw); go_simp; (try with_reducible rfl))); (case hs_69 => assumption); (try simp only [Act.put, List.setIfInBounds_toArray, List.set_cons_zero, List.set_cons_succ])
            refine wpAnyH_ready (rs := [37]) (by kernel_rfl) (by simp) (AllReadyH.cons (o := ?oo37_86) ?hoo37_86 (fun K hK => ?steponly86) AllReadyH.nil); (case hoo37_86 => (simp only [List.getElem?_toArray, List.getElem?_cons_zero, List.getElem?_cons_succ]; rfl))
            go_simp
            refine hK.out _ _ (HSX.out _ (HV.out (.cells #[.int .i64 17, .int .i64 19] 3) (.cells #[.int .i64 7, .int .i64 18] 3)) _) (fun _ => ?_)
            clear hK K
            (try simp only [Act.put, List.setIfInBounds_toArray, List.set_cons_zero, List.set_cons_succ])
            refine wpAnyH_done (by kernel_rfl) ?_ _
            go_wp2
            rw [HE.out]
            exact ⟨⟨t + 1, by go_num, by omega, blk_far (HZ.out (.cells #[.int .i64 17, .int .i64 19] 3) (.cells #[.int .i64 7, .int .i64 18] 3)) _ (by simp), by rw [← HS.out, ← wvs_set]; exact blk_set (HV.out (.cells #[.int .i64 17, .int .i64 19] 3) (.cells #[.int .i64 7, .int .i64 18] 3)) t _, (by repeat (first | (with_reducible exact Below.refl _ _) | (with_reducible refine bDrewN ?_ _) | (with_reducible refine Below.drew ?_) | (with_reducible refine Below.alloc ?_ ?_ _) | (with_reducible refine Below.setCell ?_ ?_ _) | (with_reducible assumption) | go_size))⟩, by simp [intOf]; omega⟩
          case stepB22 =>
            go_simp
            refine hK.out _ _ (hSS _ (eB _ _)) (fun _ => ?_)
            clear hK K
            (try simp only [Act.put, List.setIfInBounds_toArray, List.set_cons_zero, List.set_cons_succ])
            refine wpAnyH_ready (rs := [6]) (by kernel_rfl) (by simp) (AllReadyH.cons (o := ?oo6_87) ?hoo6_87 (fun K hK => ?steponly87) AllReadyH.nil); (case hoo6_87 => (simp only [List.getElem?_toArray, List.getElem?_cons_zero, List.getElem?_cons_succ]; rfl))
            go_simp
            refine Calls.mono (hA _ _ ?_) ?_
            · exact heap_alloc_fst wr _ _
            rintro e _ ⟨rfl, rfl⟩
            refine hK.out _ _ (hSS _ (eB _ _)) (fun _ => ?_)
            clear hK K
            (try simp only [Act.put, List.setIfInBounds_toArray, List.set_cons_zero, List.set_cons_succ])
            refine wpAnyH_take (i := 12) (oi := ?oi_70) (v := ?v_70) ?ho_70 ?h1_70 ?h2_70 ?h3_70 ?hq_70 (Or.inl ⟨?hw_70, ?hy_70⟩) ?hs_70 ?rest_70; (case h2_70 => kernel_rfl); (case h3_70 => kernel_rfl); (case ho_70 => (simp only [List.getElem?_toArray, List.getElem?_cons_zero, List.getElem?_cons_succ]; rfl)); (case h1_70 => kernel_rfl); (case hq_70 => exact fun _ _ _ h => h); (case hw_70 => rfl); (case hy_70 => (intro w' hSw; (try simp only [S] at hSw); go_simp; (try with_reducible rfl))); (case hs_70 => assumption); (try simp only [Act.put, List.setIfInBounds_toArray, List.set_cons_zero, List.set_cons_succ])
            refine wpAnyH_take (i := 17) (oi := ?oi_71) (v := ?v_71) ?ho_71 ?h1_71 ?h2_71 ?h3_71 ?hq_71 (Or.inl ⟨?hw_71, ?hy_71⟩) ?hs_71 ?rest_71; (case h2_71 => kernel_rfl); (case h3_71 => kernel_rfl); (case ho_71 => (simp only [List.getElem?_toArray, List.getElem?_cons_zero, List.getElem?_cons_succ]; rfl)); (case h1_71 => kernel_rfl); (case hq_71 => exact fun _ _ _ h => h); (case hw_71 => rfl); (case hy_71 => (intro w' hSw; (try simp only [S] at hSw); go_simp; (try with_reducible rfl))); (case hs_71 => assumption); (try simp only [Act.put, List.setIfInBounds_toArray, List.set_cons_zero, List.set_cons_succ])
            refine wpAnyH_ready (rs := [23]) (by kernel_rfl) (by simp) (AllReadyH.cons (o := ?oo23_88) ?hoo23_88 (fun K hK => ?steponly88) AllReadyH.nil); (case hoo23_88 => (simp only [List.getElem?_toArray, List.getElem?_cons_zero, List.getElem?_cons_succ]; rfl))
            go_simp
            refine Calls.mono (hB' _ _ ?_) ?_
            · exact heap_alloc_two wr _ _
            rintro e _ ⟨rfl, rfl⟩
            refine hK.out _ _ (hSS _ (eB _ _)) (fun _ => ?_)
            clear hK K
            (try simp only [Act.put, List.setIfInBounds_toArray, List.set_cons_zero, List.set_cons_succ])
            have k1 := HC.out (.cells #[.int .i64 17, .int .i64 19] 3) (.cells #[.int .i64 7, .int .i64 18] 3)
            have k2 := HF.out (.cells #[.int .i64 17, .int .i64 19] 3) (.cells #[.int .i64 7, .int .i64 18] 3)
            refine wpAnyH_take (i := 29) (oi := ?oi_72) (v := ?v_72) ?ho_72 ?h1_72 ?h2_72 ?h3_72 ?hq_72 (Or.inl ⟨?hw_72, ?hy_72⟩) ?hs_72 ?rest_72; (case h2_72 => kernel_rfl); (case h3_72 => kernel_rfl); (case ho_72 => (simp only [List.getElem?_toArray, List.getElem?_cons_zero, List.getElem?_cons_succ]; rfl)); (case h1_72 => kernel_rfl); (case hq_72 => exact fun _ _ _ h => h); (case hw_72 => rfl); (case hy_72 => (intro w' hSw; (try simp only [S] at hSw); go_simp; (try with_reducible rfl))); (case hs_72 => assumption); (try simp only [Act.put, List.setIfInBounds_toArray, List.set_cons_zero, List.set_cons_succ])
            refine wpAnyH_take (i := 30) (oi := ?oi_73) (v := ?v_73) ?ho_73 ?h1_73 ?h2_73 ?h3_73 ?hq_73 (Or.inl ⟨?hw_73, ?hy_73⟩) ?hs_73 ?rest_73; (case h2_73 => kernel_rfl); (case h3_73 => kernel_rfl); (case ho_73 => (simp only [List.getElem?_toArray, List.getElem?_cons_zero, List.getElem?_cons_succ]; rfl)); (case h1_73 => kernel_rfl); (case hq_73 => exact fun _ _ _ h => h); (case hw_73 => rfl); (case hy_73 => (intro w' hSw; (try simp only [S] at hSw); go_simp; (try with_reducible rfl))); (case hs_73 => assumption); (try simp only [Act.put, List.setIfInBounds_toArray, List.set_cons_zero, List.set_cons_succ])
            refine wpAnyH_take (i := 35) (oi := ?oi_74) (v := ?v_74) ?ho_74 ?h1_74 ?h2_74 ?h3_74 ?hq_74 (Or.inl ⟨?hw_74, ?hy_74⟩) ?hs_74 ?rest_74; (case h2_74 => kernel_rfl); (case h3_74 => kernel_rfl); (case ho_74 => (simp only [List.getElem?_toArray, List.getElem?_cons_zero, List.getElem?_cons_succ]; rfl)); (case h1_74 => kernel_rfl); (case hq_74 => exact fun _ _ _ h => h); (case hw_74 => rfl); (case hy_74 => (intro w' hSw; (try simp only [S] at hSw); go_simp; (try with_reducible rfl))); (case hs_74 => assumption); (try simp only [Act.put, List.setIfInBounds_toArray, List.set_cons_zero, List.set_cons_succ])
            refine wpAnyH_take (i := 36) (oi := ?oi_75) (v := ?v_75) ?ho_75 ?h1_75 ?h2_75 ?h3_75 ?hq_75 (Or.inl ⟨?hw_75, ?hy_75⟩) ?hs_75 ?rest_75; (case h2_75 => kernel_rfl); (case h3_75 => kernel_rfl); (case ho_75 => (simp only [List.getElem?_toArray, List.getElem?_cons_zero, List.getElem?_cons_succ]; rfl)); (case h1_75 => kernel_rfl); (case hq_75 => exact fun _ _ _ h => h); (case hw_75 => rfl); (case hy_75 => (intro w' hSw; (try simp only [S] at hSw); go_simp; (try with_reducible rfl))); (case hs_75 => assumption); (try simp only [Act.put, List.setIfInBounds_toArray, List.set_cons_zero, List.set_cons_succ])
            refine wpAnyH_ready (rs := [37]) (by kernel_rfl) (by simp) (AllReadyH.cons (o := ?oo37_89) ?hoo37_89 (fun K hK => ?steponly89) AllReadyH.nil); (case hoo37_89 => (simp only [List.getElem?_toArray, List.getElem?_cons_zero, List.getElem?_cons_succ]; rfl))
            go_simp
            refine hK.out _ _ (HSX.out _ (HV.out (.cells #[.int .i64 17, .int .i64 19] 3) (.cells #[.int .i64 7, .int .i64 18] 3)) _) (fun _ => ?_)
            clear hK K
            (try simp only [Act.put, List.setIfInBounds_toArray, List.set_cons_zero, List.set_cons_succ])
            refine wpAnyH_done (by kernel_rfl) ?_ _
            go_wp2
            rw [HE.out]
            exact ⟨⟨t + 1, by go_num, by omega, blk_far (HZ.out (.cells #[.int .i64 17, .int .i64 19] 3) (.cells #[.int .i64 7, .int .i64 18] 3)) _ (by simp), by rw [← HS.out, ← wvs_set]; exact blk_set (HV.out (.cells #[.int .i64 17, .int .i64 19] 3) (.cells #[.int .i64 7, .int .i64 18] 3)) t _, (by repeat (first | (with_reducible exact Below.refl _ _) | (with_reducible refine bDrewN ?_ _) | (with_reducible refine Below.drew ?_) | (with_reducible refine Below.alloc ?_ ?_ _) | (with_reducible refine Below.setCell ?_ ?_ _) | (with_reducible assumption) | go_size))⟩, by simp [intOf]; omega⟩
        case step22 =>
          go_simp
          refine hK.out _ _ (hSS _ (eA _)) (fun _ => ?_)
          clear hK K
          (try simp only [Act.put, List.setIfInBounds_toArray, List.set_cons_zero, List.set_cons_succ])
          refine wpAnyH_ready (rs := [5]) (by kernel_rfl) (by simp) (AllReadyH.cons (o := ?oo5_90) ?hoo5_90 (fun K hK => ?steponly90) AllReadyH.nil); (case hoo5_90 => (simp only [List.getElem?_toArray, List.getElem?_cons_zero, List.getElem?_cons_succ]; rfl))
          go_simp
          refine hK.out _ _ (hSS _ (eB _ _)) (fun _ => ?_)
          clear hK K
          (try simp only [Act.put, List.setIfInBounds_toArray, List.set_cons_zero, List.set_cons_succ])
          refine wpAnyH_ready (rs := [6]) (by kernel_rfl) (by simp) (AllReadyH.cons (o := ?oo6_91) ?hoo6_91 (fun K hK => ?steponly91) AllReadyH.nil); (case hoo6_91 => (simp only [List.getElem?_toArray, List.getElem?_cons_zero, List.getElem?_cons_succ]; rfl))
          go_simp
          refine Calls.mono (hA _ _ ?_) ?_
          · exact heap_alloc_two wr _ _
          rintro e _ ⟨rfl, rfl⟩
          refine hK.out _ _ (hSS _ (eB _ _)) (fun _ => ?_)
          clear hK K
          (try simp only [Act.put, List.setIfInBounds_toArray, List.set_cons_zero, List.set_cons_succ])
          refine wpAnyH_take (i := 12) (oi := ?oi_76) (v := ?v_76) ?ho_76 ?h1_76 ?h2_76 ?h3_76 ?hq_76 (Or.inl ⟨?hw_76, ?hy_76⟩) ?hs_76 ?rest_76; (case h2_76 => kernel_rfl); (case h3_76 => kernel_rfl); (case ho_76 => (simp only [List.getElem?_toArray, List.getElem?_cons_zero, List.getElem?_cons_succ]; rfl)); (case h1_76 => kernel_rfl); (case hq_76 => exact fun _ _ _ h => h); (case hw_76 => rfl); (case hy_76 => (intro w' hSw; (try simp only [S] at hSw); go_simp; (try with_reducible rfl))); (case hs_76 => assumption); (try simp only [Act.put, List.setIfInBounds_toArray, List.set_cons_zero, List.set_cons_succ])
          refine wpAnyH_take (i := 17) (oi := ?oi_77) (v := ?v_77) ?ho_77 ?h1_77 ?h2_77 ?h3_77 ?hq_77 (Or.inl ⟨?hw_77, ?hy_77⟩) ?hs_77 ?rest_77; (case h2_77 => kernel_rfl); (case h3_77 => kernel_rfl); (case ho_77 => (simp only [List.getElem?_toArray, List.getElem?_cons_zero, List.getElem?_cons_succ]; rfl)); (case h1_77 => kernel_rfl); (case hq_77 => exact fun _ _ _ h => h); (case hw_77 => rfl); (case hy_77 => (intro w' hSw; (try simp only [S] at hSw); go_simp; (try with_reducible rfl))); (case hs_77 => assumption); (try simp only [Act.put, List.setIfInBounds_toArray, List.set_cons_zero, List.set_cons_succ])
          refine wpAnyH_ready (rs := [23]) (by kernel_rfl) (by simp) (AllReadyH.cons (o := ?oo23_92) ?hoo23_92 (fun K hK => ?steponly92) AllReadyH.nil); (case hoo23_92 => (simp only [List.getElem?_toArray, List.getElem?_cons_zero, List.getElem?_cons_succ]; rfl))
          go_simp
          refine Calls.mono (hB' _ _ ?_) ?_
          · exact heap_alloc_fst wr _ _
          rintro e _ ⟨rfl, rfl⟩
          refine hK.out _ _ (hSS _ (eB _ _)) (fun _ => ?_)
          clear hK K
          (try simp only [Act.put, List.setIfInBounds_toArray, List.set_cons_zero, List.set_cons_succ])
          have k1 := HC.out (.cells #[.int .i64 7, .int .i64 18] 3) (.cells #[.int .i64 17, .int .i64 19] 3)
          have k2 := HF.out (.cells #[.int .i64 7, .int .i64 18] 3) (.cells #[.int .i64 17, .int .i64 19] 3)
          refine wpAnyH_take (i := 29) (oi := ?oi_78) (v := ?v_78) ?ho_78 ?h1_78 ?h2_78 ?h3_78 ?hq_78 (Or.inl ⟨?hw_78, ?hy_78⟩) ?hs_78 ?rest_78; (case h2_78 => kernel_rfl); (case h3_78 => kernel_rfl); (case ho_78 => (simp only [List.getElem?_toArray, List.getElem?_cons_zero, List.getElem?_cons_succ]; rfl)); (case h1_78 => kernel_rfl); (case hq_78 => exact fun _ _ _ h => h); (case hw_78 => rfl); (case hy_78 => (intro w' hSw; (try simp only [S] at hSw); go_simp; (try with_reducible rfl))); (case hs_78 => assumption); (try simp only [Act.put, List.setIfInBounds_toArray, List.set_cons_zero, List.set_cons_succ])
          refine wpAnyH_take (i := 30) (oi := ?oi_79) (v := ?v_79) ?ho_79 ?h1_79 ?h2_79 ?h3_79 ?hq_79 (Or.inl ⟨?hw_79, ?hy_79⟩) ?hs_79 ?rest_79; (case h2_79 => kernel_rfl); (case h3_79 => kernel_rfl); (case ho_79 => (simp only [List.getElem?_toArray, List.getElem?_cons_zero, List.getElem?_cons_succ]; rfl)); (case h1_79 => kernel_rfl); (case hq_79 => exact fun _ _ _ h => h); (case hw_79 => rfl); (case hy_79 => (intro w' hSw; (try simp only [S] at hSw); go_simp; (try with_reducible rfl))); (case hs_79 => assumption); (try simp only [Act.put, List.setIfInBounds_toArray, List.set_cons_zero, List.set_cons_succ])
          refine wpAnyH_take (i := 35) (oi := ?oi_80) (v := ?v_80) ?ho_80 ?h1_80 ?h2_80 ?h3_80 ?hq_80 (Or.inl ⟨?hw_80, ?hy_80⟩) ?hs_80 ?rest_80; (case h2_80 => kernel_rfl); (case h3_80 => kernel_rfl); (case ho_80 => (simp only [List.getElem?_toArray, List.getElem?_cons_zero, List.getElem?_cons_succ]; rfl)); (case h1_80 => kernel_rfl); (case hq_80 => exact fun _ _ _ h => h); (case hw_80 => rfl); (case hy_80 => (intro w' hSw; (try simp only [S] at hSw); go_simp; (try with_reducible rfl))); (case hs_80 => assumption); (try simp only [Act.put, List.setIfInBounds_toArray, List.set_cons_zero, List.set_cons_succ])
          refine wpAnyH_take (i := 36) (oi := ?oi_81) (v := ?v_81) ?ho_81 ?h1_81 ?h2_81 ?h3_81 ?hq_81 (Or.inl ⟨?hw_81, ?hy_81⟩) ?hs_81 ?rest_81; (case h2_81 => kernel_rfl); (case h3_81 => kernel_rfl); (case ho_81 => (simp only [List.getElem?_toArray, List.getElem?_cons_zero, List.getElem?_cons_succ]; rfl)); (case h1_81 => kernel_rfl); (case hq_81 => exact fun _ _ _ h => h); (case hw_81 => rfl); (case hy_81 => (intro w' hSw; (try simp only [S] at hSw); go_simp; (try with_reducible rfl))); (case hs_81 => assumption); (try simp only [Act.put, List.setIfInBounds_toArray, List.set_cons_zero, List.set_cons_succ])
          refine wpAnyH_ready (rs := [37]) (by kernel_rfl) (by simp) (AllReadyH.cons (o := ?oo37_93) ?hoo37_93 (fun K hK => ?steponly93) AllReadyH.nil); (case hoo37_93 => (simp only [List.getElem?_toArray, List.getElem?_cons_zero, List.getElem?_cons_succ]; rfl))
          go_simp
          refine hK.out _ _ (HSX.out _ (HV.out (.cells #[.int .i64 7, .int .i64 18] 3) (.cells #[.int .i64 17, .int .i64 19] 3)) _) (fun _ => ?_)
          clear hK K
          (try simp only [Act.put, List.setIfInBounds_toArray, List.set_cons_zero, List.set_cons_succ])
          refine wpAnyH_done (by kernel_rfl) ?_ _
          go_wp2
          rw [HE.out]
          exact ⟨⟨t + 1, by go_num, by omega, blk_far (HZ.out (.cells #[.int .i64 7, .int .i64 18] 3) (.cells #[.int .i64 17, .int .i64 19] 3)) _ (by simp), by rw [← HS.out, ← wvs_set]; exact blk_set (HV.out (.cells #[.int .i64 7, .int .i64 18] 3) (.cells #[.int .i64 17, .int .i64 19] 3)) t _, (by repeat (first | (with_reducible exact Below.refl _ _) | (with_reducible refine bDrewN ?_ _) | (with_reducible refine Below.drew ?_) | (with_reducible refine Below.alloc ?_ ?_ _) | (with_reducible refine Below.setCell ?_ ?_ _) | (with_reducible assumption) | go_size))⟩, by simp [intOf]; omega⟩
    · obtain rfl : t = 64 := by omega
      rw [schZ_all] at bX
      have hzl : z64.length = 64 := rfl
      have hsl : (sch p 64).length = 64 := sch_len p 64
      generalize sch p 64 = M at *
      clear hs
      go_wp2_with (first
        | (refine wpList_load_row rfl 153 (.tmp 3) rfl _ rfl _ (wvs M).toArray (0, 0) _ bX Try.underlying153 rfl (w64_info hsl) ?_)
        | (refine wpList_store_row rfl 153 (.tmp 2) (.tmp 72) rfl _ (wvs M).toArray rfl rfl _ (wvs z64).toArray bZ (w64_info hsl) (ws_sizes hzl hsl) (all_oneCell_toArray (oneCell_wvs _)) ?_)
        | fail)
      generalize hX : World.setRow _ _ _ = X
      have bZX : X.heap[w.heap.size]? = some (.cells (wvs M).toArray 153) := by rw [← hX]; exact setRow_heap _ _ _ _ _ _ bZ
      have hBX : Below w.heap.size w X := by rw [← hX]; exact bSetRow hB (Nat.le_refl _) _
      clear hX
      have hld := run_loadVar_row (P := Try.prog) X _ _ 153 _ _ _ bZX Try.underlying153 rfl (w64_info hsl)
      refine bodyPost_ret (by simp [results, Try.results96, Act.put, asAddr, Result.andThen, hld]; try rfl) rfl ?_
      exact Ret.mk rfl hBX
end Go.Proofs.Ytnkdbkgihemjnaa
