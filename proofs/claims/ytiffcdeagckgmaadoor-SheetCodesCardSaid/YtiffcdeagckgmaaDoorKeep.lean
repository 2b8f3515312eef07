/- Bytes as texts (codexkeep.Bytes); equality of structs field by field. -/
import Derived.Test.YtiffcdeagckgmaaDoorMany
import Derived.Test.YtiffcdeagckgmaaDoorChecked
namespace Go.Proofs.YtiffcdeagckgmaaDoor
set_option linter.unusedSimpArgs false
set_option linter.unusedVariables false
open Go.RowKit Go.Sort

theorem run_str {P : Program} {w : World} {B n : Nat} {A : Option Addr} {l : List UInt8} (h : Sl w B 1 A n (bvs l)) (c : Nat) {src dst e : TypeId} (hs : P.underlying src = some (.slice e)) (he : P.underlying e = some (.int .u8)) (hd : P.underlying dst = some .string) :
    (convert src dst (.slice A n c)).run P w = .ok (.string ⟨l.toArray⟩) w := by
  have hl : l.length = n := by have := h.len; rw [bvs_len] at this; omega
  rcases A with _ | a
  · have : n = 0 := by
      rcases Nat.eq_zero_or_pos n with h0 | h0
      · exact h0
      · obtain ⟨b, o, e, _⟩ := h.at_ h0; cases e
    subst this
    obtain rfl : l = [] := List.eq_nil_of_length_eq_zero hl
    rw [run_convert_bytes_nil w src e hs he 0 c dst hd]
    rfl
  · subst hl
    refine run_convert_bytes_back w src dst e a c l hs he hd (fun j hj => ?_)
    obtain ⟨b, o, e, _, hr⟩ := h.at_ (by omega)
    injection e with e
    subst e
    rw [Addr.add_mid]
    exact hr j _ (by simp [bvs, bv, hj])
theorem bytes_any (A B : Option Addr) (n m c c' BA BB : Nat) (xs ys : List UInt8) (w : World) (h1 : Sl w BA 1 A n (bvs xs)) (h2 : Sl w BB 1 B m (bvs ys)) :
    Calls Tryd.prog 14 #[.slice A n c, .slice B m c'] w fun e w' => e = .returned (.bool (decide (xs = ys))) ∧ w = w' := by
  have k1 := run_str (P := Tryd.prog) (dst := 9) h1 c Tryd.underlying25 Tryd.underlying5 Tryd.underlying9
  have k2 := run_str (P := Tryd.prog) (dst := 9) h2 c' Tryd.underlying25 Tryd.underlying5 Tryd.underlying9
  go_enter Tryd.func14, Tryd.ntmps14
  go_wp2
  go_ret
  exact ⟨ret_bool (by rw [Bool.eq_iff_iff]; simp), rfl⟩
theorem bytes_eqT {A B : Option Addr} {n m c c' BA BB : Nat} {xs : List UInt8} (w : World) (h1 : Sl w BA 1 A n (bvs xs)) (h2 : Sl w BB 1 B m (bvs xs)) :
    Calls Tryd.prog 14 #[.slice A n c, .slice B m c'] w fun e w' => e = .returned (.bool true) ∧ w = w' :=
  (bytes_any A B n m c c' BA BB xs xs w h1 h2).mono fun e w' ⟨h, k⟩ => ⟨by rw [h, decide_eq_true rfl], k⟩
theorem size_run {P : Program} {t : TypeId} {n : Nat} (h : (P.info? t).map (·.size) = some n) (w : World) : (sizeOf t).run P w = .ok n w := by
  cases hq : P.info? t with
  | none => rw [hq] at h; cases h
  | some i =>
    rw [hq] at h
    have hs : i.size = n := by simpa using h
    simp [sizeOf, typeInfo, hq, hs]
theorem part_int {P : Program} {t : TypeId} {k : IntKind} (hu : P.underlying t = some (.int k)) {cs : Array Value} {o : Nat} {v : Value} (h : cs[o]? = some v) (w : World) : (part t cs o).run P w = .ok v w := by
  simp [part, isAgg, run_underlying hu, h]
theorem part_arr {P : Program} {t e : TypeId} {n m : Nat} (hu : P.underlying t = some (.array n e)) (hs : (P.info? t).map (·.size) = some m) (cs : Array Value) (o : Nat) (w : World) : (part t cs o).run P w = .ok (.agg (cs.extract o (o + m))) w := by
  simp [part, isAgg, run_underlying hu, size_run hs]
theorem eqF_cons {P : Program} {d : Nat} {xs ys : Array Value} {f : Field} {fs : List Field} {a b : Value} {r : Bool} {w : World} (hn : f.name ≠ "_") (ha : (part f.type xs f.offset).run P w = .ok a w) (hb : (part f.type ys f.offset).run P w = .ok b w)
    (hr : (Op.equalIn d f.type a b).run P w = .ok r w) {R : Bool} (h : r = true → (Op.eqFields d xs ys fs).run P w = .ok R w) : (Op.eqFields d xs ys (f :: fs)).run P w = .ok (r && R) w := by
  unfold Op.eqFields
  rw [if_pos hn]
  simp only [Sem.run_bind, ha, hb, Result.andThen_ok, hr, Sem.run_ite, Sem.run_pure]
  cases r
  · simp
  · simpa using h rfl
theorem eqF_nil {P : Program} {d : Nat} {xs ys : Array Value} {w : World} : (Op.eqFields d xs ys []).run P w = .ok true w := by unfold Op.eqFields; rfl
theorem nd_name : ∀ (a b : String), a = b → b ≠ "_" → a ≠ "_" := fun a b e h => e ▸ h
theorem u8_sizeOf' (w : World) : (sizeOf 5).run Tryd.prog w = .ok 1 w := size_run (by kernel_rfl) w
end Go.Proofs.YtiffcdeagckgmaaDoor
