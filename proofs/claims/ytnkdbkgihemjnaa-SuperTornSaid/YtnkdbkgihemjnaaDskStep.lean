/- Steps: how they are read; Fair; Mod. -/
import Derived.Test.YtnkdbkgihemjnaaDskWakes
namespace Go.Proofs.Ytnkdbkgihemjnaa
set_option linter.unusedSimpArgs false
set_option linter.unusedVariables false
open Go.RowKit Go.ChangeShapes Go.WideShapes Go.Deep

structure Stp where
  kind : Int
  i : Int
  v : UInt8
  A : Option Addr
  keep : List UInt8
  c : Nat
def Stp.enc (x : Stp) : List Value := [.int .i64 x.kind, .int .i64 x.i, bv x.v, .slice x.A x.keep.length x.c]
theorem Stp.enc_len (x : Stp) : x.enc.length = 4 := rfl
def Stp.Ok (w : World) (x : Stp) : Prop := (-9223372036854775808 ≤ x.i ∧ x.i ≤ 9223372036854775807) ∧ Sl w w.heap.size 1 x.A x.keep.length (bvs x.keep) ∧ x.keep.length ≤ x.c ∧ x.c ≤ maxLen
section
variable {H : Type} {enc : TypeId × Value → H} {w : World}
set_option maxRecDepth 100000 in
theorem dec_step (fuel : Nat) (cs : List Value) (x : DataW H × List MemPlace) (h : DataW.trod enc Try.prog w 0 (fun _ => true) true fuel 64 cs = some x) : ∃ a : Stp, cs = a.enc ∧ a.Ok w := by
  obtain ⟨fs, ht, hC, hf⟩ : ∃ fs : Array Field, Try.prog.underlying 64 = some (.struct fs) ∧ Try.prog.cellsOf 64 = 4 ∧
      (∃ f, fs[0]? = some f ∧ f.offset = 0 ∧ f.type = 3) ∧ (∃ f, fs[1]? = some f ∧ f.offset = 1 ∧ f.type = 3) ∧ (∃ f, fs[2]? = some f ∧ f.offset = 2 ∧ f.type = 5) ∧ (∃ f, fs[3]? = some f ∧ f.offset = 3 ∧ f.type = 41) :=
    ⟨_, Try.underlying64, by kernel_rfl, ⟨_, rfl, rfl, rfl⟩, ⟨_, rfl, rfl, rfl⟩, ⟨_, rfl, rfl, rfl⟩, ⟨_, rfl, rfl, rfl⟩⟩
  obtain ⟨⟨f0, a0, b0, t0⟩, ⟨f1, a1, b1, t1⟩, ⟨f2, a2, b2, t2⟩, ⟨f3, a3, b3, t3⟩⟩ := hf
  obtain ⟨xs, m, _, _, hlen, hxl, hx⟩ := DataW.trod_struct ht h
  have c1 : Try.prog.cellsOf 3 = 1 := by kernel_rfl
  have c2 : Try.prog.cellsOf 5 = 1 := by kernel_rfl
  have c3 : Try.prog.cellsOf 41 = 1 := by kernel_rfl
  have h0 := hx 0 f0 a0
  have h1 := hx 1 f1 a1
  have h2 := hx 2 f2 a2
  have h3 := hx 3 f3 a3
  rw [b0, t0, c1, List.getElem?_eq_getElem (by rw [hxl]; exact (Array.getElem?_eq_some_iff.1 a0).1)] at h0
  rw [b1, t1, c1, List.getElem?_eq_getElem (by rw [hxl]; exact (Array.getElem?_eq_some_iff.1 a1).1)] at h1
  rw [b2, t2, c2, List.getElem?_eq_getElem (by rw [hxl]; exact (Array.getElem?_eq_some_iff.1 a2).1)] at h2
  rw [b3, t3, c3, List.getElem?_eq_getElem (by rw [hxl]; exact (Array.getElem?_eq_some_iff.1 a3).1)] at h3
  obtain ⟨z0, e0, -⟩ := dec_int Try.underlying3 _ _ _ h0
  obtain ⟨z1, e1, w1⟩ := dec_int Try.underlying3 _ _ _ h1
  obtain ⟨z2, e2, -⟩ := dec_byte Try.underlying5 _ _ _ h2
  obtain ⟨A, n, c, l, e3, hl, hn, hc, -, hs, -⟩ := open_sl (encA := fun b : UInt8 => [bv b]) (ok := fun _ => True) (sz := 1) Try.underlying41 c2 (by omega) (fun _ => rfl) (fun fuel cs x hx => dec_byte Try.underlying5 fuel cs x hx) h3
  rw [hC] at hlen
  match cs, hlen with
  | [q0, q1, q2, q3], _ =>
    simp only [List.drop_zero, List.drop_succ_cons, List.take_succ_cons, List.take_zero, List.cons.injEq, and_true] at e0 e1 e2 e3
    subst e0 e1 e2 e3
    rw [map_flat] at hs
    subst hl
    exact ⟨⟨z0, z1, z2, A, l, c⟩, rfl, wf64 w1, hs, hn, hc⟩
set_option maxRecDepth 100000 in
theorem open_steps {base : Nat} {v : Value} {d : DataW H} {p : List MemPlace} (k : Value.okWide Try.prog w .any base 60 v) (h : DataW.Trod enc Try.prog w 0 (fun _ => true) true 60 v d p) :
    ∃ A c, ∃ l : List Stp, v = .slice A l.length c ∧ l.length ≤ c ∧ c ≤ maxLen ∧ Sl w w.heap.size 4 A l.length (l.flatMap Stp.enc) ∧ ∀ x ∈ l, x.Ok w := by
  obtain ⟨A, n, c, l, h1, h2, h3, h4, h5, h6, h7⟩ := open_slA (encA := Stp.enc) (ok := fun a : Stp => a.Ok w) Try.underlying60 (sz := 4) (by kernel_rfl) (by omega) Stp.enc_len (fun fuel cs x hx => dec_step fuel cs x hx) k h
  subst h2
  exact ⟨A, c, l, h1, h3, h4, h6, h7⟩
end

def encS (l : List Stp) : List Value := l.flatMap Stp.enc
/-- the cells of one step -/
theorem step_at {w : World} {B : Nat} {A : Option Addr} {l : List Stp} (h : Sl w B 4 A l.length (encS l)) {k : Nat} {x : Stp} (hk : l[k]? = some x) : ∃ b o, A = some ⟨b, o, none⟩ ∧ b < B ∧
    w.cell? ⟨b, o + k * 4, none⟩ = some (.int .i64 x.kind) ∧ w.cell? ⟨b, o + k * 4 + 1, none⟩ = some (.int .i64 x.i) ∧ w.cell? ⟨b, o + k * 4 + 2, none⟩ = some (bv x.v) ∧ w.cell? ⟨b, o + k * 4 + 3, none⟩ = some (.slice x.A x.keep.length x.c) := by
  obtain ⟨b, o, e, hb, _, hr⟩ := h.elem (List.getElem?_eq_some_iff.1 hk).1
  rw [show ((encS l).drop (k * 4)).take 4 = x.enc from flatMap_part Stp.enc 4 Stp.enc_len l k x hk] at hr
  exact ⟨b, o, e, hb, hr 0 _ rfl, hr 1 _ rfl, hr 2 _ rfl, hr 3 _ rfl⟩
def fairL (l : List Stp) : Bool := l.all (fun x => decide (x.keep.length ≤ 300)) && decide (l.length ≤ 200)

set_option maxHeartbeats 2000000 in
theorem fair_any {w : World} {A : Option Addr} {c : Nat} {l : List Stp} (h : Sl w w.heap.size 4 A l.length (encS l)) (hc : l.length ≤ c) (hm : c ≤ maxLen) :
    Calls Try.prog 28 #[.slice A l.length c] w fun e w' => e = .returned (.bool (fairL l)) ∧ w = w' := by
  have hm2 : l.length ≤ 9223372036854775807 := by simp only [maxLen] at hm; omega
  go_enter Try.func28, Try.ntmps28
  go_wp2_with fail
  go_loop [3] (fun i => ∃ k : Nat, i = .int .i64 k ∧ k ≤ l.length ∧ (l.take k).all (fun x => decide (x.keep.length ≤ 300)) = true) (fun i => l.length - (intOf i).toNat)
  case atStart => exact ⟨0, rfl, by omega, rfl⟩
  case round =>
    obtain ⟨k, rfl, hk, hall⟩ := hrel
    have HALL := Lib.hid hall
    clear hall
    by_cases hlt : k < l.length
    · obtain ⟨x, hx⟩ : ∃ x, l[k]? = some x := ⟨_, List.getElem?_eq_getElem hlt⟩
      obtain ⟨b, o, rfl, hb, -, -, -, c3⟩ := step_at h hx
      have g1 : (k : Int) < l.length := by omega
      have htk : l.take (k + 1) = l.take k ++ [x] := by rw [List.take_add_one, hx]; rfl
      have HTK := Lib.hid htk
      have HX := Lib.hid hx
      clear htk hx
      by_cases h3 : x.keep.length ≤ 300
      · have g2 : ¬ (300 : Int) < x.keep.length := by omega
        go_wp2_with fail
        go_round
        case rel => exact ⟨k + 1, by go_num, by omega, by rw [HTK.out, List.all_append, HALL.out]; simp [h3]⟩
        case measure => simp [intOf]; omega
      · have g2 : (300 : Int) < x.keep.length := by omega
        have hf : Hid (fairL l = false) := Lib.hid (by
          unfold fairL
          have : l.all (fun x => decide (x.keep.length ≤ 300)) = false := by
            rw [List.all_eq_false]
            exact ⟨x, List.mem_of_getElem? HX.out, by simpa using h3⟩
          rw [this]; rfl)
        go_wp2_with fail
        go_ret
        exact ⟨by rw [hf.out]; rfl, rfl⟩
    · obtain rfl : k = l.length := by omega
      have hal := HALL.out
      rw [List.take_length] at hal
      have hf : Hid (fairL l = decide (l.length ≤ 200)) := Lib.hid (by unfold fairL; rw [hal]; rfl)
      clear hal
      go_wp2_with fail
      go_ret
      refine ⟨ret_bool ?_, rfl⟩
      rw [hf.out]
      by_cases h2 : l.length ≤ 200
      · rw [decide_eq_true h2]; simp; omega
      · rw [decide_eq_false h2]; simp; omega

theorem mod_any (k : Int) (n : Nat) (h1 : 1 ≤ n) (h2 : n ≤ 1000000) (hk : -9223372036854775808 ≤ k ∧ k ≤ 9223372036854775807) (w : World) :
    Calls Try.prog 29 #[.int .i64 k, .int .i64 n] w fun e w' => e = .returned (.int .i64 (k % (n : Int))) ∧ w = w' := by
  have g1 : ¬ (n : Int) < 1 := by omega
  have g0 : ¬ (n : Int) = 0 := by omega
  have hm1 := Int.tmod_lt_of_pos k (show (0 : Int) < n by omega)
  have hm2 := Int.lt_tmod_of_pos k (show (0 : Int) < n by omega)
  have he : Int.tmod k n % (n : Int) = k % (n : Int) := by
    rw [Int.tmod_def, Int.sub_emod, Int.mul_emod_right]
    simp
  have hw : IntKind.i64.wrap (Int.tmod k n + n) = Int.tmod k n + n := wrap_small _ (by omega) (by omega)
  have HE := Lib.hid he
  clear he
  obtain ⟨r, hr⟩ : ∃ r, Int.tmod k n = r := ⟨_, rfl⟩
  rw [hr] at hm1 hm2 hw HE
  go_enter Try.func29, Try.ntmps29
  go_wp2_with fail
  go_ret
  exact ⟨ret_int HE.out, rfl⟩
end Go.Proofs.Ytnkdbkgihemjnaa
