/- The statements of layer 1: DiskFuses. -/
import Derived.Test.YthbaogjamenndaaDskLaws3
namespace Go.Proofs.Ythbaogjamenndaa
set_option linter.unusedSimpArgs false
set_option linter.unusedVariables false
open Go.RowKit Go.ChangeShapes Go.WideShapes Go.Sort

/-! ### plain: a fuse of K, so many are done -/
def Fz (K : Nat) (s : DS) : Prop := (s.down = false ∧ s.fuse = (K : Int) - s.done ∧ s.done ≤ K) ∨ (s.down = true ∧ s.done = K)
theorem fz_stops {K : Nat} {s : DS} (h : Fz K s) : s.stops = !decide (s.done < K) := by
  unfold DS.stops
  rcases h with ⟨h1, h2, h3⟩ | ⟨h1, h2⟩
  · rw [h1, h2]
    by_cases e : s.done < K
    · have : ¬ ((K : Int) - s.done = 0) := by omega
      simp [e, this]
    · have : (K : Int) - s.done = 0 := by omega
      simp [e, this]
  · rw [h1]; simp [h2]
theorem fz_gone {K : Nat} {s : DS} (h : Fz K s) (hlt : s.done < K) : Fz K s.gone ∧ s.gone.done = s.done + 1 ∧ s.gone.down = false := by
  refine ⟨.inl ⟨rfl, ?_, ?_⟩, rfl, rfl⟩
  · rcases h with ⟨h1, h2, h3⟩ | ⟨h1, h2⟩
    · show (if 0 < s.fuse then s.fuse - 1 else s.fuse) = (K : Int) - ((s.done + 1 : Nat) : Int)
      rw [if_pos (by omega)]; omega
    · omega
  · show s.done + 1 ≤ K; omega
theorem fz_cut {K : Nat} {s : DS} (h : Fz K s) (hlt : ¬ s.done < K) : Fz K s.cut ∧ s.cut.done = s.done ∧ s.cut.down = true := by
  refine ⟨.inr ⟨rfl, ?_⟩, rfl, rfl⟩
  show s.done = K
  rcases h with ⟨h1, h2, h3⟩ | ⟨h1, h2⟩ <;> omega
theorem fz_same {K : Nat} {s s' : DS} (h : Fz K s) (e1 : s'.down = s.down) (e2 : s'.fuse = s.fuse) (e3 : s'.done = s.done) : Fz K s' := by
  unfold Fz; rw [e1, e2, e3]; exact h
theorem fz_write {K : Nat} {s : DS} (h : Fz K s) {i : Int} (hin : s.inB i = true) (b : Blk) :
    (s.done < K → s.writeE i = 0 ∧ Fz K (s.write i b) ∧ (s.write i b).done = s.done + 1 ∧ (s.write i b).down = false) ∧ (¬ s.done < K → s.writeE i = 12 ∧ Fz K (s.write i b) ∧ (s.write i b).done = s.done ∧ (s.write i b).down = true) := by
  have hst := fz_stops h
  constructor
  · intro hlt
    have e : s.stops = false := by rw [hst]; simp [hlt]
    obtain ⟨a, b', c⟩ := fz_gone h hlt
    have ew : s.write i b = { s.gone with lo := s.lo ++ [(i.toNat, b)] } := by unfold DS.write; simp [hin, e]
    rw [ew]
    exact ⟨by unfold DS.writeE DS.passE; simp [hin, e], fz_same a rfl rfl rfl, b', c⟩
  · intro hlt
    have e : s.stops = true := by rw [hst]; simp [hlt]
    obtain ⟨a, b', c⟩ := fz_cut h hlt
    have ew : s.write i b = s.cut := by unfold DS.write; simp [hin, e]
    rw [ew]
    exact ⟨by unfold DS.writeE DS.passE; simp [hin, e], a, b', c⟩
theorem fz_sync {K : Nat} {s : DS} (h : Fz K s) :
    (s.done < K → s.passE = 0 ∧ Fz K s.sync ∧ s.sync.done = s.done + 1 ∧ s.sync.down = false) ∧ (¬ s.done < K → s.passE = 12 ∧ Fz K s.sync ∧ s.sync.done = s.done ∧ s.sync.down = true) := by
  have hst := fz_stops h
  constructor
  · intro hlt
    have e : s.stops = false := by rw [hst]; simp [hlt]
    obtain ⟨a, b', c⟩ := fz_gone h hlt
    have ew : s.sync = { s.gone with bl := putAll s.bl s.lo, lo := [] } := by unfold DS.sync; simp [e]
    rw [ew]
    exact ⟨by unfold DS.passE; simp [e], fz_same a rfl rfl rfl, b', c⟩
  · intro hlt
    have e : s.stops = true := by rw [hst]; simp [hlt]
    obtain ⟨a, b', c⟩ := fz_cut h hlt
    have ew : s.sync = s.cut := by unfold DS.sync; simp [e]
    rw [ew]
    exact ⟨by unfold DS.passE; simp [e], a, b', c⟩

set_option maxHeartbeats 8000000 in
set_option maxRecDepth 100000 in
theorem diskFuses_core {w : World} {A : Option Addr} {c : Nat} {l : List Stp} (n : Int) (hn : 0 ≤ n ∧ n ≤ 255) (hs : Sl w w.heap.size 4 A l.length (encS l)) (hc : l.length ≤ c) (hm : c ≤ maxLen) (hok : ∀ x ∈ l, x.Ok w) :
    Calls Try.prog 9 #[.int .u8 n, .slice A l.length c] w (Ret w (.bool true)) := by
  obtain ⟨K, hK, hK9⟩ : ∃ K : Nat, Int.tmod n 30 = (K : Int) ∧ K < 30 := ⟨(Int.tmod n 30).toNat, by rw [Int.tmod_eq_emod_of_nonneg hn.1]; omega, by rw [Int.tmod_eq_emod_of_nonneg hn.1]; omega⟩
  have v0 : IntKind.i64.wrap n = n := wrap_small _ hn.1 (by omega)
  have hnw := fun W => new_any 16 (by omega) (by omega) W
  have hm2 : l.length ≤ 9223372036854775807 := by simp only [maxLen] at hm; omega
  have hzv := fun W => run_zero blkZ W
  go_enter Try.func9, Try.ntmps9
  go_wp2_with fail
  refine (hnw _).mono ?_
  rintro e W0 ⟨rfl, hk0, hb0⟩
  have hfair := fair_any (w := W0) (hs.next hb0) hc hm
  obtain ⟨t, ht⟩ : ∃ t, fairL l = t := ⟨_, rfl⟩
  rw [ht] at hfair
  unfold dp
  clear hnw
  go_wp2_with fail
  refine hfair.mono ?_
  rintro e _ ⟨rfl, rfl⟩
  clear hfair
  cases t
  · go_wp2_with fail
    refine (wakes01_any _).mono ?_
    rintro e W2 ⟨rfl, hb2⟩
    go_wp2
    go_ret
    exact Ret.mk rfl (hb0.trans (hb2.mono hb0.size))
  · have hl2 : l.length ≤ 200 := by
      unfold fairL at ht
      simp at ht
      exact ht.2
    clear ht
    go_wp2_with fail
    refine (fuse_any hk0 (K : Int) (by omega)).mono ?_
    rintro e W1 ⟨rfl, hk1, hs1⟩
    have hB1 := hb0.trans ((DStep.of_but hs1).below hk0)
    have hfz : Fz K ((DS.new 16).fuseTo K) := .inl ⟨rfl, by show max (K : Int) (-1) = _; simp [DS.new, DS.fuseTo]; omega, Nat.zero_le _⟩
    have hbl : ((DS.new 16).fuseTo K).bl.length = 16 := rfl
    have hd0 : ((DS.new 16).fuseTo K).done = 0 := rfl
    have hl0 : ((DS.new 16).fuseTo K).lo.length = 0 := rfl
    obtain ⟨s0, hs0⟩ : ∃ s0, (DS.new 16).fuseTo K = s0 := ⟨_, rfl⟩
    rw [hs0] at hk1 hfz hbl hd0 hl0
    clear hs0 hk0 hb0 hs1 hK v0 hn
    go_wp2_with fail
    go_loopw [8, 9] (fun d i wr => ∃ (k : Nat) (s : DS) (v : Value), d = .int .i64 (s.done : Nat) ∧ i = .int .i64 k ∧ k ≤ l.length ∧ s.done ≤ k ∧ s.lo.length ≤ k ∧ s.bl.length = 16 ∧ Fz K s ∧ Dk wr w.heap.size (w.heap.size + 1) w.heap.size v s ∧ Below w.heap.size w wr) (fun _ i _ => l.length - (intOf i).toNat)
    case atStart => exact ⟨0, s0, _, by rw [hd0]; rfl, rfl, by omega, by omega, by omega, hbl, hfz, hk1, hB1⟩
    case round =>
      clear hk1 hB1 hbl hfz hd0 hl0
      obtain ⟨k, s, v, rfl, rfl, hk, hdk, hlk, hbl, hfz, hD, hB⟩ := hrel
      by_cases hlt : k < l.length
      · obtain ⟨x, hx⟩ : ∃ x, l[k]? = some x := ⟨_, List.getElem?_eq_getElem hlt⟩
        have hxm := List.mem_of_getElem? hx
        obtain ⟨b, o, rfl, hb, q0, q1, q2, q3⟩ := step_at (hs.below hB) hx
        have hxi := (hok x hxm).1
        have g1 : (k : Int) < l.length := by omega
        have hzr := hB.size
        unfold bv at q2
        clear hx hxm q3
        by_cases k0 : x.kind = 0
        · -- Write
          rw [k0] at q0
          obtain ⟨m, hm7, hm0⟩ : ∃ m : Nat, x.i % 5 = (m : Int) ∧ m < 5 := ⟨(x.i % 5).toNat, by omega, by omega⟩
          have hmod := fun W => mod_any x.i 5 (by omega) (by omega) hxi W
          rw [show (((5 : Nat) : Int)) = 5 from rfl, hm7] at hmod
          have hfl : ∀ W, Calls Try.prog 30 #[.int .u8 (x.v.toNat : Int)] W (Ret W (.agg (bvs (fillB x.v)).toArray)) := fun W => fill_any x.v W
          let S : World → Prop := fun w' => w'.cell? ⟨b, o + k * 4 + 1, none⟩ = some (.int .i64 x.i) ∧ w'.cell? ⟨b, o + k * 4 + 2, none⟩ = some (.int .u8 (x.v.toNat : Int))
          have hS : ∀ w', (∀ j, j < w.heap.size → w'.heap[j]? = wr.heap[j]?) → S w' := fun w' h => ⟨(World.cell?_of_block (a := ⟨b, o + k * 4 + 1, none⟩) (h b hb)).trans q1, (World.cell?_of_block (a := ⟨b, o + k * 4 + 2, none⟩) (h b hb)).trans q2⟩
          have HS := Lib.hid hS
          have hS0 : S wr.drew := hS _ (fun _ _ => rfl)
          have hDd := hD.below (w' := wr.drew) ((Below.refl _ _).drew)
          have hwr := fun W (h : Dk W w.heap.size (w.heap.size + 1) w.heap.size v s) => write_any h (by omega) (by omega) (m : Int) (fillB_len x.v)
          unfold bkv dp at hwr
          go_upto_region 16 with (fail)
          clear hS q2 q1 q0 hs
          refine wp_region_held (S := S) (by kernel_rfl) ?_
          change wpAnyH _ _ _ _ S _ _ _ wr.drew
          refine wpAnyH_take (i := 0) (oi := ?oi_1) (v := ?v_1) ?ho_1 ?h1_1 ?h2_1 ?h3_1 ?hq_1 (Or.inl ⟨?hw_1, ?hy_1⟩) ?hs_1 ?rest_1; (case h2_1 => kernel_rfl); (case h3_1 => kernel_rfl); (case ho_1 => (simp only [List.getElem?_toArray, List.getElem?_cons_zero, List.getElem?_cons_succ]; rfl)); (case h1_1 => kernel_rfl); (case hq_1 => exact fun _ _ _ h => h); (case hw_1 => rfl); (case hy_1 => (intro w' hSw; (try simp only [S] at hSw); go_simp; (try with_reducible rfl))); (case hs_1 => assumption); (try simp only [Act.put, List.setIfInBounds_toArray, List.set_cons_zero, List.set_cons_succ])
          refine wpAnyH_take (i := 1) (oi := ?oi_2) (v := ?v_2) ?ho_2 ?h1_2 ?h2_2 ?h3_2 ?hq_2 (Or.inl ⟨?hw_2, ?hy_2⟩) ?hs_2 ?rest_2; (case h2_2 => kernel_rfl); (case h3_2 => kernel_rfl); (case ho_2 => (simp only [List.getElem?_toArray, List.getElem?_cons_zero, List.getElem?_cons_succ]; rfl)); (case h1_2 => kernel_rfl); (case hq_2 => exact fun _ _ _ h => h); (case hw_2 => rfl); (case hy_2 => (intro w' hSw; (try simp only [S] at hSw); go_simp; (try with_reducible rfl))); (case hs_2 => assumption); (try simp only [Act.put, List.setIfInBounds_toArray, List.set_cons_zero, List.set_cons_succ])
          refine wpAnyH_take (i := 2) (oi := ?oi_3) (v := ?v_3) ?ho_3 ?h1_3 ?h2_3 ?h3_3 ?hq_3 (Or.inl ⟨?hw_3, ?hy_3⟩) ?hs_3 ?rest_3; (case h2_3 => kernel_rfl); (case h3_3 => kernel_rfl); (case ho_3 => (simp only [List.getElem?_toArray, List.getElem?_cons_zero, List.getElem?_cons_succ]; rfl)); (case h1_3 => kernel_rfl); (case hq_3 => exact fun _ _ _ h => h); (case hw_3 => rfl); (case hy_3 => (intro w' hSw; (try simp only [S] at hSw); go_simp; (try with_reducible rfl))); (case hs_3 => assumption); (try simp only [Act.put, List.setIfInBounds_toArray, List.set_cons_zero, List.set_cons_succ])
          refine wpAnyH_take (i := 3) (oi := ?oi_4) (v := ?v_4) ?ho_4 ?h1_4 ?h2_4 ?h3_4 ?hq_4 (Or.inl ⟨?hw_4, ?hy_4⟩) ?hs_4 ?rest_4; (case h2_4 => kernel_rfl); (case h3_4 => kernel_rfl); (case ho_4 => (simp only [List.getElem?_toArray, List.getElem?_cons_zero, List.getElem?_cons_succ]; rfl)); (case h1_4 => kernel_rfl); (case hq_4 => exact fun _ _ _ h => h); (case hw_4 => rfl); (case hy_4 => (intro w' hSw; (try simp only [S] at hSw); go_simp; (try with_reducible rfl))); (case hs_4 => assumption); (try simp only [Act.put, List.setIfInBounds_toArray, List.set_cons_zero, List.set_cons_succ])
          refine wpAnyH_take (i := 4) (oi := ?oi_5) (v := ?v_5) ?ho_5 ?h1_5 ?h2_5 ?h3_5 ?hq_5 (Or.inl ⟨?hw_5, ?hy_5⟩) ?hs_5 ?rest_5; (case h2_5 => kernel_rfl); (case h3_5 => kernel_rfl); (case ho_5 => (simp only [List.getElem?_toArray, List.getElem?_cons_zero, List.getElem?_cons_succ]; rfl)); (case h1_5 => kernel_rfl); (case hq_5 => exact fun _ _ _ h => h); (case hw_5 => rfl); (case hy_5 => (intro w' hSw; (try simp only [S] at hSw); go_simp; (try with_reducible rfl))); (case hs_5 => assumption); (try simp only [Act.put, List.setIfInBounds_toArray, List.set_cons_zero, List.set_cons_succ])
          refine wpAnyH_take (i := 5) (oi := ?oi_6) (v := ?v_6) ?ho_6 ?h1_6 ?h2_6 ?h3_6 ?hq_6 (Or.inl ⟨?hw_6, ?hy_6⟩) ?hs_6 ?rest_6; (case h2_6 => kernel_rfl); (case h3_6 => kernel_rfl); (case ho_6 => (simp only [List.getElem?_toArray, List.getElem?_cons_zero, List.getElem?_cons_succ]; rfl)); (case h1_6 => kernel_rfl); (case hq_6 => exact fun _ _ _ h => h); (case hw_6 => rfl); (case hy_6 => (intro w' hSw; (try simp only [S] at hSw); go_simp; (try with_reducible rfl))); (case hs_6 => assumption); (try simp only [Act.put, List.setIfInBounds_toArray, List.set_cons_zero, List.set_cons_succ])
          refine wpAnyH_take (i := 7) (oi := ?oi_7) (v := ?v_7) ?ho_7 ?h1_7 ?h2_7 ?h3_7 ?hq_7 (Or.inl ⟨?hw_7, ?hy_7⟩) ?hs_7 ?rest_7; (case h2_7 => kernel_rfl); (case h3_7 => kernel_rfl); (case ho_7 => (simp only [List.getElem?_toArray, List.getElem?_cons_zero, List.getElem?_cons_succ]; rfl)); (case h1_7 => kernel_rfl); (case hq_7 => exact fun _ _ _ h => h); (case hw_7 => rfl); (case hy_7 => (intro w' hSw; (try simp only [S] at hSw); go_simp; (try with_reducible rfl))); (case hs_7 => assumption); (try simp only [Act.put, List.setIfInBounds_toArray, List.set_cons_zero, List.set_cons_succ])
          refine wpAnyH_take (i := 8) (oi := ?oi_8) (v := ?v_8) ?ho_8 ?h1_8 ?h2_8 ?h3_8 ?hq_8 (Or.inl ⟨?hw_8, ?hy_8⟩) ?hs_8 ?rest_8; (case h2_8 => kernel_rfl); (case h3_8 => kernel_rfl); (case ho_8 => (simp only [List.getElem?_toArray, List.getElem?_cons_zero, List.getElem?_cons_succ]; rfl)); (case h1_8 => kernel_rfl); (case hq_8 => exact fun _ _ _ h => h); (case hw_8 => rfl); (case hy_8 => (intro w' hSw; (try simp only [S] at hSw); go_simp; (try with_reducible rfl))); (case hs_8 => assumption); (try simp only [Act.put, List.setIfInBounds_toArray, List.set_cons_zero, List.set_cons_succ])
          refine wpAnyH_take (i := 9) (oi := ?oi_9) (v := ?v_9) ?ho_9 ?h1_9 ?h2_9 ?h3_9 ?hq_9 (Or.inl ⟨?hw_9, ?hy_9⟩) ?hs_9 ?rest_9; (case h2_9 => kernel_rfl); (case h3_9 => kernel_rfl); (case ho_9 => (simp only [List.getElem?_toArray, List.getElem?_cons_zero, List.getElem?_cons_succ]; rfl)); (case h1_9 => kernel_rfl); (case hq_9 => exact fun _ _ _ h => h); (case hw_9 => rfl); (case hy_9 => (intro w' hSw; (try simp only [S] at hSw); go_simp; (try with_reducible rfl))); (case hs_9 => assumption); (try simp only [Act.put, List.setIfInBounds_toArray, List.set_cons_zero, List.set_cons_succ])
          refine wpAnyH_take (i := 10) (oi := ?oi_10) (v := ?v_10) ?ho_10 ?h1_10 ?h2_10 ?h3_10 ?hq_10 (Or.inl ⟨?hw_10, ?hy_10⟩) ?hs_10 ?rest_10; (case h2_10 => kernel_rfl); (case h3_10 => kernel_rfl); (case ho_10 => (simp only [List.getElem?_toArray, List.getElem?_cons_zero, List.getElem?_cons_succ]; rfl)); (case h1_10 => kernel_rfl); (case hq_10 => exact fun _ _ _ h => h); (case hw_10 => rfl); (case hy_10 => (intro w' hSw; (try simp only [S] at hSw); go_simp; (try with_reducible rfl))); (case hs_10 => assumption); (try simp only [Act.put, List.setIfInBounds_toArray, List.set_cons_zero, List.set_cons_succ])
          refine wpAnyH_take (i := 11) (oi := ?oi_11) (v := ?v_11) ?ho_11 ?h1_11 ?h2_11 ?h3_11 ?hq_11 (Or.inl ⟨?hw_11, ?hy_11⟩) ?hs_11 ?rest_11; (case h2_11 => kernel_rfl); (case h3_11 => kernel_rfl); (case ho_11 => (simp only [List.getElem?_toArray, List.getElem?_cons_zero, List.getElem?_cons_succ]; rfl)); (case h1_11 => kernel_rfl); (case hq_11 => exact fun _ _ _ h => h); (case hw_11 => rfl); (case hy_11 => (intro w' hSw; (try simp only [S] at hSw); go_simp; (try with_reducible rfl))); (case hs_11 => assumption); (try simp only [Act.put, List.setIfInBounds_toArray, List.set_cons_zero, List.set_cons_succ])
          refine wpAnyH_ready (rs := [6]) (by kernel_rfl) (by simp) (AllReadyH.cons (o := ?oo6_14) ?hoo6_14 (fun K hK => ?steponly14) AllReadyH.nil); (case hoo6_14 => (simp only [List.getElem?_toArray, List.getElem?_cons_zero, List.getElem?_cons_succ]; rfl))
          go_simp
          refine (hmod _).mono ?_
          rintro e _ ⟨rfl, rfl⟩
          refine hK.out _ _ hS0 (fun _ => ?_)
          clear hK K
          (try simp only [Act.put, List.setIfInBounds_toArray, List.set_cons_zero, List.set_cons_succ])
          refine wpAnyH_ready (rs := [12]) (by kernel_rfl) (by simp) (AllReadyH.cons (o := ?oo12_15) ?hoo12_15 (fun K hK => ?steponly15) AllReadyH.nil); (case hoo12_15 => (simp only [List.getElem?_toArray, List.getElem?_cons_zero, List.getElem?_cons_succ]; rfl))
          go_simp
          refine (hfl _).mono ?_
          rintro e W1 ⟨rfl, hb1⟩
          have hD1 := hDd.below hb1
          have e1 : ∀ j, j < w.heap.size → W1.heap[j]? = wr.heap[j]? := fun j hj => hb1.block j (by show j < wr.heap.size; omega)
          refine hK.out _ _ (HS.out _ e1) (fun _ => ?_)
          clear hK K
          (try simp only [Act.put, List.setIfInBounds_toArray, List.set_cons_zero, List.set_cons_succ])
          have hB1 := hB.trans (((Below.refl _ _).drew).trans (hb1.mono (by show w.heap.size ≤ wr.heap.size; omega)))
          refine wpAnyH_ready (rs := [13]) (by kernel_rfl) (by simp) (AllReadyH.cons (o := ?oo13_16) ?hoo13_16 (fun K hK => ?steponly16) AllReadyH.nil); (case hoo13_16 => (simp only [List.getElem?_toArray, List.getElem?_cons_zero, List.getElem?_cons_succ]; rfl))
          go_simp
          refine (hwr _ hD1).mono ?_
          rintro e W2 ⟨rfl, v2, hD2, hs2⟩
          have hB2 := hB1.trans (hs2.below hD1)
          have e2 : ∀ j, j < w.heap.size → W2.heap[j]? = wr.heap[j]? := fun j hj => (hs2.but.block j (by have := hb1.size; have : wr.drew.heap.size = wr.heap.size := rfl; omega) (fun hj2 => by have := (hD1.own_ge j hj2).1; omega)).trans (e1 j hj)
          refine hK.out _ _ (HS.out _ e2) (fun _ => ?_)
          clear hK K
          (try simp only [Act.put, List.setIfInBounds_toArray, List.set_cons_zero, List.set_cons_succ])
          clear hwr hfl hDd hD1 hD hS0 hmod e1 e2 hb1 hB1
          have hq := write_cnt' s (m : Int) (fillB x.v)
          have hwbl := (write_bl s (m : Int) (fillB x.v)).trans hbl
          have hin : s.inB (m : Int) = true := DS.inB_iff.2 ⟨by omega, by rw [hbl]; omega⟩
          have hfw := fz_write hfz hin (fillB x.v)
          obtain ⟨s2, hs2e⟩ : ∃ s2, s.write (m : Int) (fillB x.v) = s2 := ⟨_, rfl⟩
          rw [hs2e] at hD2 hq hwbl hfw
          clear hs2e hs2 hin hfz
          by_cases hdl : s.done < K
          · obtain ⟨r0, r1, r2, r3⟩ := hfw.1 hdl
            have R := Lib.hid (And.intro r1 (And.intro r2 r3))
            rw [r0]
            clear hfw r0 r1 r2 r3
            refine wpAnyH_take (i := 14) (oi := ?oi_12) (v := ?v_12) ?ho_12 ?h1_12 ?h2_12 ?h3_12 ?hq_12 (Or.inl ⟨?hw_12, ?hy_12⟩) ?hs_12 ?rest_12; (case h2_12 => kernel_rfl); (case h3_12 => kernel_rfl); (case ho_12 => (simp only [List.getElem?_toArray, List.getElem?_cons_zero, List.getElem?_cons_succ]; rfl)); (case h1_12 => kernel_rfl); (case hq_12 => exact fun _ _ _ h => h); (case hw_12 => rfl); (case hy_12 => (intro w' hSw; (try simp only [S] at hSw); go_simp; (try with_reducible rfl))); (case hs_12 => assumption); (try simp only [Act.put, List.setIfInBounds_toArray, List.set_cons_zero, List.set_cons_succ])
            refine wpAnyH_done (by kernel_rfl) ?_ _
            have w1 : IntKind.i64.wrap ((s.done : Int) + 1) = ((s.done + 1 : Nat) : Int) := by rw [wrap_small _ (by omega) (by omega)]; omega
            have gk : (s.done : Int) < K := by omega
            go_wp2_with fail
            refine (down_any hD2).mono ?_
            rintro e _ ⟨rfl, rfl⟩
            rw [R.out.2.2]
            go_wp2_with fail
            go_roundw
            case rel => exact ⟨k + 1, s2, v2, by rw [R.out.2.1]; try rfl, by go_num, by omega, by rw [R.out.2.1]; omega, by omega, hwbl, R.out.1, hD2, hB2⟩
            case measure => simp [intOf]; omega
          · obtain ⟨r0, r1, r2, r3⟩ := hfw.2 hdl
            have R := Lib.hid (And.intro r1 (And.intro r2 r3))
            rw [r0]
            clear hfw r0 r1 r2 r3
            refine wpAnyH_take (i := 14) (oi := ?oi_13) (v := ?v_13) ?ho_13 ?h1_13 ?h2_13 ?h3_13 ?hq_13 (Or.inl ⟨?hw_13, ?hy_13⟩) ?hs_13 ?rest_13; (case h2_13 => kernel_rfl); (case h3_13 => kernel_rfl); (case ho_13 => (simp only [List.getElem?_toArray, List.getElem?_cons_zero, List.getElem?_cons_succ]; rfl)); (case h1_13 => kernel_rfl); (case hq_13 => exact fun _ _ _ h => h); (case hw_13 => rfl); (case hy_13 => (intro w' hSw; (try simp only [S] at hSw); go_simp; (try with_reducible rfl))); (case hs_13 => assumption); (try simp only [Act.put, List.setIfInBounds_toArray, List.set_cons_zero, List.set_cons_succ])
            refine wpAnyH_done (by kernel_rfl) ?_ _
            have gk : ¬ (s.done : Int) < K := by omega
            go_wp2_with fail
            refine (down_any hD2).mono ?_
            rintro e _ ⟨rfl, rfl⟩
            rw [R.out.2.2]
            go_wp2_with fail
            go_roundw
            case rel => exact ⟨k + 1, s2, v2, by rw [R.out.2.1]; try rfl, by go_num, by omega, by rw [R.out.2.1]; omega, by omega, hwbl, R.out.1, hD2, hB2⟩
            case measure => simp [intOf]; omega
        · by_cases k2 : x.kind = 2
          · -- Sync
            rw [k2] at q0
            have hq := sync_cnt' s
            have hwbl := (sync_bl s).trans hbl
            have hfw := fz_sync hfz
            go_wp2_with fail
            refine (sync_any hD (by omega) (by omega)).mono ?_
            rintro e W2 ⟨rfl, v2, hD2, hs2⟩
            have hB2 := hB.trans (hs2.below hD)
            clear hD hB hs2 q0 q1 q2 hfz hs
            obtain ⟨s2, hs2e⟩ : ∃ s2, s.sync = s2 := ⟨_, rfl⟩
            rw [hs2e] at hD2 hq hwbl hfw
            clear hs2e
            by_cases hdl : s.done < K
            · obtain ⟨r0, r1, r2, r3⟩ := hfw.1 hdl
              have R := Lib.hid (And.intro r1 (And.intro r2 r3))
              rw [r0]
              clear hfw r0 r1 r2 r3
              have w1 : IntKind.i64.wrap ((s.done : Int) + 1) = ((s.done + 1 : Nat) : Int) := by rw [wrap_small _ (by omega) (by omega)]; omega
              have gk : (s.done : Int) < K := by omega
              go_wp2_with fail
              refine (down_any hD2).mono ?_
              rintro e _ ⟨rfl, rfl⟩
              rw [R.out.2.2]
              go_wp2_with fail
              go_roundw
              case rel => exact ⟨k + 1, s2, v2, by rw [R.out.2.1]; try rfl, by go_num, by omega, by rw [R.out.2.1]; omega, by omega, hwbl, R.out.1, hD2, hB2⟩
              case measure => simp [intOf]; omega
            · obtain ⟨r0, r1, r2, r3⟩ := hfw.2 hdl
              have R := Lib.hid (And.intro r1 (And.intro r2 r3))
              rw [r0]
              clear hfw r0 r1 r2 r3
              have gk : ¬ (s.done : Int) < K := by omega
              go_wp2_with fail
              refine (down_any hD2).mono ?_
              rintro e _ ⟨rfl, rfl⟩
              rw [R.out.2.2]
              go_wp2_with fail
              go_roundw
              case rel => exact ⟨k + 1, s2, v2, by rw [R.out.2.1]; try rfl, by go_num, by omega, by rw [R.out.2.1]; omega, by omega, hwbl, R.out.1, hD2, hB2⟩
              case measure => simp [intOf]; omega
          · -- others
            have d0 : decide (x.kind = 0) = false := by simp [k0]
            have d2 : decide (x.kind = 2) = false := by simp [k2]
            have hin : s.inB 0 = true := DS.inB_iff.2 ⟨by omega, by rw [hbl]; omega⟩
            have hre : s.readE 0 = if s.down then 12 else 0 := by unfold DS.readE; rw [hin]; rfl
            have hr := read_any hD (by omega) 0
            rw [hre] at hr
            have hrl := hD.ok.read 0
            unfold bkv dp at hr
            generalize s.read 0 = R0 at *
            go_wp2_with fail
            refine hr.mono ?_
            rintro e W5 ⟨rfl, hb5⟩
            obtain ⟨W6, hW6⟩ : ∃ W6, World.setRow (W5.alloc (.cells (bvs zblk).toArray 55)) W5.heap.size (bvs R0).toArray = W6 := ⟨_, rfl⟩
            have hb6 : Below W5.heap.size W5 W6 := by rw [← hW6]; exact bSetRow ((Below.refl _ _).alloc (Nat.le_refl _) _) (Nat.le_refl _) _
            have hD6 := (hD.below hb5).below hb6
            have hz5 := hb5.size
            have hB6 := hB.trans ((hb5.mono (by omega)).trans (hb6.mono (by omega)))
            clear hr hre hin hb6 hb5 q0 q1 q2 hD hB d0 d2
            cases hdn : s.down
            · simp only [Bool.false_eq_true, if_false]
              go_wp2_with (first
                | (refine wpList_new rfl blkZ rfl ?_)
                | (refine wpList_store_row rfl 55 (.tmp 11) (.tmp 57) rfl _ (bvs R0).toArray rfl rfl _ (bvs zblk).toArray (heap_alloc_new _ _) (bk_info hrl) (blk_sizes zblk_len hrl) (all_oneCell_toArray (oneCell_bvs _)) ?_)
                | fail)
              refine (down_any hD6).mono ?_
              rintro e _ ⟨rfl, rfl⟩
              rw [hdn]
              go_wp2_with fail
              go_roundw
              case rel => exact ⟨k + 1, s, v, rfl, by go_num, by omega, by omega, by omega, hbl, hfz, hD6, hB6⟩
              case measure => simp [intOf]; omega
            · simp only [if_true]
              go_wp2_with (first
                | (refine wpList_new rfl blkZ rfl ?_)
                | (refine wpList_store_row rfl 55 (.tmp 11) (.tmp 57) rfl _ (bvs R0).toArray rfl rfl _ (bvs zblk).toArray (heap_alloc_new _ _) (bk_info hrl) (blk_sizes zblk_len hrl) (all_oneCell_toArray (oneCell_bvs _)) ?_)
                | fail)
              refine (down_any hD6).mono ?_
              rintro e _ ⟨rfl, rfl⟩
              rw [hdn]
              go_wp2_with fail
              go_roundw
              case rel => exact ⟨k + 1, s, v, rfl, by go_num, by omega, by omega, by omega, hbl, hfz, hD6, hB6⟩
              case measure => simp [intOf]; omega
      · obtain rfl : k = l.length := by omega
        have g1 : ¬ (l.length : Int) < l.length := by omega
        have hcr := crash_any hD (by omega) [] none 0 (by decide) Sl.nil (fun b o h => absurd h (by decide)) 0
        have e1 : (s.crash [] 0).done = s.done ∧ (s.crash [] 0).down = false ∧ (s.crash [] 0).writeE 0 = 0 ∧ (s.crash [] 0).lo.length = 0 := by
          refine ⟨rfl, rfl, ?_, rfl⟩
          have hin : (s.crash [] 0).inB 0 = true := DS.inB_iff.2 ⟨by omega, by show (0 : Int) < ((crashTo [] 0 s.lo s.bl s.lo.length).length : Nat); rw [crashTo_len, hbl]; omega⟩
          have hst : (s.crash [] 0).stops = false := by simp [DS.stops, DS.crash]
          unfold DS.writeE DS.passE
          rw [hin, hst]; rfl
        obtain ⟨s9, hs9⟩ : ∃ s9, s.crash [] 0 = s9 := ⟨_, rfl⟩
        rw [hs9] at hcr e1
        unfold dp at hcr
        simp only [List.length_nil] at hcr
        obtain ⟨e1, e2, e3, e4⟩ := e1
        have E := Lib.hid (And.intro e1 (And.intro e2 e3))
        clear hs hs9 e1 e2 e3 hfz
        go_wp2_with fail
        refine hcr.mono ?_
        rintro e W2 ⟨rfl, v2, hD2, hs2⟩
        have hB2 := hB.trans (hs2.below hD)
        clear hcr
        go_wp2_with fail
        refine (down_any hD2).mono ?_
        rintro e _ ⟨rfl, rfl⟩
        rw [E.out.2.1]
        go_wp2_with fail
        refine (done_any hD2).mono ?_
        rintro e _ ⟨rfl, rfl⟩
        rw [E.out.1]
        have hw := write_any hD2 (by rw [E.out.1]; omega) (by omega) 0 zblk_len
        rw [E.out.2.2] at hw
        unfold bkv dp at hw
        go_wp2_with fail
        refine hw.mono ?_
        rintro e W3 ⟨rfl, v3, hD3, hs3⟩
        have hB3 := hB2.trans (hs3.below hD2)
        go_wp2_with fail
        refine (wakes01_any _).mono ?_
        rintro e W4 ⟨rfl, hb4⟩
        go_wp2
        go_ret
        exact Ret.mk rfl (hB3.trans (hb4.mono hB3.size))

set_option maxRecDepth 100000 in
theorem diskFuses_walk {H : Type} {enc : TypeId × Value → H} {W : World} {base : Nat} {v0 v1 : Value} {d0 d1 : DataW H} {p0 p1 : List MemPlace}
    (k0 : Value.okWide Try.prog W .any base 5 v0) (h0 : DataW.Trod enc Try.prog W 0 (fun _ => true) true 5 v0 d0 p0)
    (k1 : Value.okWide Try.prog W .any base 42 v1) (h1 : DataW.Trod enc Try.prog W 0 (fun _ => true) true 42 v1 d1 p1)
    : Calls Try.prog 9 #[v0, v1] W fun e W' => e = .returned (.bool true) ∧ Below W.heap.size W W' := by
  obtain ⟨n, rfl, -, -, wn⟩ := open_int Try.underlying5 k0 h0
  obtain ⟨A, c, l, rfl, h1, h2, h3, h4⟩ := open_steps k1 h1
  exact diskFuses_core n (wf_u8 wn) h3 h1 h2 h4
end Go.Proofs.Ythbaogjamenndaa
