/- The steps of SuperPlays: as arguments, in memory; fair. -/
import Derived.Test.YtnkdbkgihemjnaaSupArg
namespace Go.Proofs.Ytnkdbkgihemjnaa
set_option linter.unusedSimpArgs false
set_option linter.unusedVariables false
open Go.RowKit Go.ChangeShapes Go.WideShapes Go.Sort Go.Deep

structure St7 where
  kind : Int
  i : Int
  s : SP
  b : Blk
  A : Option Addr
  keep : List UInt8
  c : Nat
def St7.enc (x : St7) : List Value := .int .i64 x.kind :: .int .i64 x.i :: (x.s.cells ++ (bvs x.b ++ [.slice x.A x.keep.length x.c]))
structure St7.Ok (w : World) (x : St7) : Prop where
  i63 : -9223372036854775808 ≤ x.i ∧ x.i ≤ 9223372036854775807
  s : x.s.Ok
  b : x.b.length = 128
  keep : Sl w w.heap.size 1 x.A x.keep.length (bvs x.keep)
  kc : x.keep.length ≤ x.c
  cm : x.c ≤ maxLen
theorem St7.Ok.len {w : World} {x : St7} (h : x.Ok w) : x.enc.length = 182 := by simp [St7.enc, bvs_len, h.s.len, h.b]
/-- cut or filled to its length: the cells are 182 for each step -/
def St7.enc' (x : St7) : List Value := if x.enc.length = 182 then x.enc else List.replicate 182 (.bool false)
theorem St7.enc_len' (x : St7) : x.enc'.length = 182 := by
  unfold St7.enc'
  split
  · assumption
  · exact List.length_replicate
theorem St7.Ok.enc' {w : World} {x : St7} (h : x.Ok w) : x.enc' = x.enc := if_pos h.len

section
variable {H : Type} {enc : TypeId × Value → H} {w : World}
set_option maxRecDepth 100000 in
theorem dec_st7 (fuel : Nat) (cs : List Value) (x : DataW H × List MemPlace) (h : DataW.trod enc Try.prog w 0 (fun _ => true) true fuel 43 cs = some x) : ∃ a : St7, cs = a.enc' ∧ a.Ok w := by
  have hC : Try.prog.cellsOf 43 = 182 := by kernel_rfl
  obtain ⟨fs, ht, hf⟩ : ∃ fs, Try.prog.underlying 43 = some (.struct fs) ∧
      (∃ f, fs[0]? = some f ∧ f.offset = 0 ∧ f.type = 3) ∧ (∃ f, fs[1]? = some f ∧ f.offset = 1 ∧ f.type = 3) ∧ (∃ f, fs[2]? = some f ∧ f.offset = 2 ∧ f.type = 38) ∧ (∃ f, fs[3]? = some f ∧ f.offset = 53 ∧ f.type = 40) ∧ (∃ f, fs[4]? = some f ∧ f.offset = 181 ∧ f.type = 41) :=
    ⟨_, Try.underlying43, ⟨_, rfl, rfl, rfl⟩, ⟨_, rfl, rfl, rfl⟩, ⟨_, rfl, rfl, rfl⟩, ⟨_, rfl, rfl, rfl⟩, ⟨_, rfl, rfl, rfl⟩⟩
  obtain ⟨⟨f0, a0, b0, t0⟩, ⟨f1, a1, b1, t1⟩, ⟨f2, a2, b2, t2⟩, ⟨f3, a3, b3, t3⟩, ⟨f4, a4, b4, t4⟩⟩ := hf
  obtain ⟨xs, m, _, _, hlen, hxl, hx⟩ := DataW.trod_struct ht h
  have c1 : Try.prog.cellsOf 3 = 1 := by kernel_rfl
  have c2 : Try.prog.cellsOf 38 = 51 := by kernel_rfl
  have c3 : Try.prog.cellsOf 40 = 128 := by kernel_rfl
  have c4 : Try.prog.cellsOf 41 = 1 := by kernel_rfl
  have c5 : Try.prog.cellsOf 5 = 1 := by kernel_rfl
  have h0 := hx 0 f0 a0
  have h1 := hx 1 f1 a1
  have h2 := hx 2 f2 a2
  have h3 := hx 3 f3 a3
  have h4 := hx 4 f4 a4
  rw [b0, t0, c1, List.getElem?_eq_getElem (by rw [hxl]; exact (Array.getElem?_eq_some_iff.1 a0).1)] at h0
  rw [b1, t1, c1, List.getElem?_eq_getElem (by rw [hxl]; exact (Array.getElem?_eq_some_iff.1 a1).1)] at h1
  rw [b2, t2, c2, List.getElem?_eq_getElem (by rw [hxl]; exact (Array.getElem?_eq_some_iff.1 a2).1)] at h2
  rw [b3, t3, c3, List.getElem?_eq_getElem (by rw [hxl]; exact (Array.getElem?_eq_some_iff.1 a3).1)] at h3
  rw [b4, t4, c4, List.getElem?_eq_getElem (by rw [hxl]; exact (Array.getElem?_eq_some_iff.1 a4).1)] at h4
  obtain ⟨z0, e0, -⟩ := dec_int Try.underlying3 _ _ _ h0
  obtain ⟨z1, e1, w1⟩ := dec_int Try.underlying3 _ _ _ h1
  obtain ⟨s, e2, os⟩ := dec_sp _ _ _ h2
  obtain ⟨b, n3, e3⟩ := dec_bytes Try.underlying40 Try.underlying5 c5 c3 _ _ _ h3
  obtain ⟨A, n, c, l, e4, hl, hn, hc, -, hs, -⟩ := open_sl (encA := fun b : UInt8 => [bv b]) (ok := fun _ => True) (sz := 1) Try.underlying41 c5 (by omega) (fun _ => rfl) (fun fuel cs x hx => dec_byte Try.underlying5 fuel cs x hx) h4
  rw [map_flat] at hs
  subst hl
  rw [hC] at hlen
  have ok : St7.Ok w ⟨z0, z1, s, b, A, l, c⟩ := ⟨wf64 w1, os, n3, hs, hn, hc⟩
  refine ⟨⟨z0, z1, s, b, A, l, c⟩, ?_, ok⟩
  rw [ok.enc']
  show cs = .int .i64 z0 :: .int .i64 z1 :: (s.cells ++ (bvs b ++ [.slice A l.length c]))
  match cs, hlen with
  | x0 :: x1 :: r, hlen =>
    simp only [List.drop_zero, List.drop_succ_cons, List.take_succ_cons, List.take_zero, List.cons.injEq, and_true] at e0 e1 e2 e3 e4
    subst e0 e1
    simp only [List.length_cons] at hlen
    have d1 : r = r.take 51 ++ (r.drop 51) := (List.take_append_drop _ _).symm
    have d2 : r.drop 51 = (r.drop 51).take 128 ++ (r.drop 179) := by
      rw [show r.drop 179 = (r.drop 51).drop 128 from by rw [List.drop_drop], List.take_append_drop]
    have d3 : (r.drop 179).take 1 = r.drop 179 := List.take_of_length_le (by rw [List.length_drop]; omega)
    rw [d3] at e4
    rw [e3, e4] at d2
    rw [e2, d2] at d1
    rw [d1]
set_option maxRecDepth 100000 in
theorem open_st7 {base : Nat} {v : Value} {d : DataW H} {p : List MemPlace} (k : Value.okWide Try.prog w .any base 22 v) (h : DataW.Trod enc Try.prog w 0 (fun _ => true) true 22 v d p) :
    ∃ A c, ∃ l : List St7, v = .slice A l.length c ∧ l.length ≤ c ∧ c ≤ maxLen ∧ Sl w w.heap.size 182 A l.length (l.flatMap St7.enc') ∧ ∀ x ∈ l, x.Ok w := by
  obtain ⟨A, n, c, l, h1, h2, h3, h4, h5, h6, h7⟩ := open_slA (encA := St7.enc') (ok := fun a : St7 => a.Ok w) Try.underlying22 (sz := 182) (by kernel_rfl) (by omega) St7.enc_len' (fun fuel cs x hx => dec_st7 fuel cs x hx) k h
  subst h2
  exact ⟨A, c, l, h1, h3, h4, h6, h7⟩
end

/-- the cells of one step -/
theorem st7_at {w w0 : World} {B : Nat} {A : Option Addr} {l : List St7} (h : Sl w B 182 A l.length (l.flatMap St7.enc')) {k : Nat} {x : St7} (hk : l[k]? = some x) (ok : x.Ok w0) : ∃ b o, A = some ⟨b, o, none⟩ ∧ b < B ∧ w.rangeAt b (o + k * 182) x.enc := by
  obtain ⟨b, o, e, hb, _, hr⟩ := h.elem (List.getElem?_eq_some_iff.1 hk).1
  rw [show ((l.flatMap St7.enc').drop (k * 182)).take 182 = x.enc' from flatMap_part St7.enc' 182 St7.enc_len' l k x hk, ok.enc'] at hr
  exact ⟨b, o, e, hb, hr⟩
def zSt7 : List Value := .int .i64 0 :: .int .i64 0 :: (sp0.cells ++ (bvs zblk ++ [.slice none 0 0]))
theorem st7Z : ZeroIs Try.prog 43 zSt7.toArray := by
  unfold ZeroIs
  rw [show zSt7.toArray.size = 182 from by rw [List.size_toArray]; simp [zSt7, sp0_ok.len, bvs_len, zblk_len]]
  kernel_rfl
theorem zSt7_len : zSt7.length = 182 := by simp [zSt7, sp0_ok.len, bvs_len, zblk_len]
theorem st7_one (x : St7) : ∀ u ∈ x.enc, u.oneCell' = true := fun u hu => by
  unfold St7.enc at hu
  simp only [List.mem_cons, List.mem_append, List.mem_nil_iff, or_false] at hu
  rcases hu with rfl | rfl | h | h | rfl
  · rfl
  · rfl
  · exact one_sp _ u h
  · exact oneCell_bvs _ u h
  · rfl
/-- a step's cells in a block of its own -/
structure StAt7 (w : World) (g : Nat) (x : St7) : Prop where
  blk : w.heap[g]? = some (.cells x.enc.toArray 43)
  c0 : w.cell? ⟨g, 0, none⟩ = some (.int .i64 x.kind)
  c1 : w.cell? ⟨g, 1, none⟩ = some (.int .i64 x.i)
  s : w.rangeAt g 2 x.s.cells
  b : w.rangeAt g 53 (bvs x.b)
  k : w.cell? ⟨g, 181, none⟩ = some (.slice x.A x.keep.length x.c)
theorem StAt7.of {w w0 : World} {g : Nat} {x : St7} (ok : x.Ok w0) (h : w.heap[g]? = some (.cells x.enc.toArray 43)) : StAt7 w g x := by
  have hr : w.rangeAt g 0 x.enc := fun j u hj => by rw [Nat.zero_add]; exact blk_cell h (by simpa using hj)
  have e1 : x.enc = [.int .i64 x.kind, .int .i64 x.i] ++ (x.s.cells ++ (bvs x.b ++ [.slice x.A x.keep.length x.c])) := rfl
  rw [e1, range_append] at hr
  obtain ⟨r1, r2⟩ := hr
  rw [range_append] at r2
  obtain ⟨r2, r3⟩ := r2
  rw [range_append] at r3
  obtain ⟨r3, r4⟩ := r3
  rw [show ([Value.int .i64 x.kind, .int .i64 x.i] : List Value).length = 2 from rfl, Nat.zero_add] at r2 r3 r4
  rw [ok.s.len] at r3 r4
  rw [bvs_len, ok.b] at r4
  exact ⟨h, r1 0 _ rfl, r1 1 _ rfl, r2, r3, r4 0 _ rfl⟩
def fair7 (l : List St7) : Bool := l.all (fun x => decide (x.keep.length ≤ 300)) && decide (l.length ≤ 60)

set_option maxHeartbeats 2000000 in
set_option maxRecDepth 100000 in
theorem fair7_any {w w0 : World} {A : Option Addr} {c : Nat} {l : List St7} (h : Sl w w.heap.size 182 A l.length (l.flatMap St7.enc')) (hok : ∀ x ∈ l, x.Ok w0) (hc : l.length ≤ c) (hm : c ≤ maxLen) :
    Calls Try.prog 15 #[.slice A l.length c] w fun e w' => e = .returned (.bool (fair7 l)) ∧ w = w' := by
  have hm2 : l.length ≤ 9223372036854775807 := by simp only [maxLen] at hm; omega
  go_enter Try.func15, Try.ntmps15
  go_wp2_with fail
  go_loop [3] (fun i => ∃ k : Nat, i = .int .i64 k ∧ k ≤ l.length ∧ (l.take k).all (fun x => decide (x.keep.length ≤ 300)) = true) (fun i => l.length - (intOf i).toNat)
  case atStart => exact ⟨0, rfl, by omega, rfl⟩
  case round =>
    obtain ⟨k, rfl, hk, hall⟩ := hrel
    have HALL := Lib.hid hall
    clear hall
    by_cases hlt : k < l.length
    · obtain ⟨x, hx⟩ : ∃ x, l[k]? = some x := ⟨_, List.getElem?_eq_getElem hlt⟩
      have hxo := hok x (List.mem_of_getElem? hx)
      obtain ⟨b, o, rfl, hb, hr⟩ := st7_at h hx hxo
      have q3 : w.cell? ⟨b, o + k * 182 + 181, none⟩ = some (.slice x.A x.keep.length x.c) := hr 181 _ (by
        unfold St7.enc
        rw [show (181 : Nat) = 179 + 1 + 1 from rfl, List.getElem?_cons_succ, List.getElem?_cons_succ, List.getElem?_append_right (by rw [hxo.s.len]; omega), hxo.s.len, List.getElem?_append_right (by rw [bvs_len, hxo.b]; omega), bvs_len, hxo.b]
        rfl)
      have g1 : (k : Int) < l.length := by omega
      have hkc := hxo.kc
      have hcm := hxo.cm
      have HT : Hid ((l.take (k + 1)).all (fun x => decide (x.keep.length ≤ 300)) = decide (x.keep.length ≤ 300)) := Lib.hid (by
        rw [List.take_add_one, hx, List.all_append, HALL.out]; simp)
      have HM : Hid (x ∈ l) := Lib.hid (List.mem_of_getElem? hx)
      clear hx hr hxo
      by_cases hkp : x.keep.length ≤ 300
      · have g2 : (x.keep.length : Int) ≤ 300 := by omega
        have HK := Lib.hid hkp
        clear hkp
        go_wp2_with fail
        go_round
        case rel => exact ⟨k + 1, by go_num, by omega, by rw [HT.out]; exact decide_eq_true HK.out⟩
        case measure => simp [intOf]; omega
      · have g2 : ¬ (x.keep.length : Int) ≤ 300 := by omega
        have g3 : (300 : Int) < x.keep.length := by omega
        have HK := Lib.hid hkp
        clear hkp
        go_wp2_with fail
        go_ret
        refine ⟨ret_bool ?_, rfl⟩
        have : fair7 l = false := by
          unfold fair7
          rw [Bool.and_eq_false_iff]; left
          rw [List.all_eq_false]
          exact ⟨x, HM.out, by simpa using HK.out⟩
        rw [this]
    · obtain rfl : k = l.length := by omega
      have hall := HALL.out
      rw [List.take_length] at hall
      have HF : Hid (fair7 l = decide ((l.length : Int) ≤ 60)) := Lib.hid (by
        unfold fair7; rw [hall, Bool.true_and, Bool.eq_iff_iff]; simp; omega)
      clear hall HALL
      go_wp2_with fail
      go_ret
      exact ⟨ret_bool (by rw [HF.out]), rfl⟩
end Go.Proofs.Ytnkdbkgihemjnaa
