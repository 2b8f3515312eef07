
/- The wakes of layer 1. -/
import Derived.Test.YtnkdbkgihemjnaaDskCrash
import Derived.Lib.QuietBelow
import Derived.BigQuiet
import Derived.Deep.CutRange
import Derived.Stop.BytesEq
namespace Go.Proofs.Ytnkdbkgihemjnaa
set_option linter.unusedSimpArgs false
set_option linter.unusedVariables false
open Go.RowKit Go.Sort

theorem DStep.below {w w' : World} {base p B : Nat} {v v' : Value} {s : DS} (h : Dk w base p B v s) (st : DStep p B v v' w w') : Below base w w' :=
  st.but.below (by have := h.lt; have := h.bp; omega) (fun k hk => (h.own_ge k hk).1)
theorem DStep.of_but {w w' : World} {p B : Nat} {v : Value} (h : But w.heap.size (· = p) w w') : DStep p B v v w w' := ⟨h.widen (fun k e => .inl e), fun k e => .inl e⟩
theorem u8_sizeOf' (w : World) : (sizeOf 5).run Try.prog w = .ok 1 w := by
  have h : (Try.prog.info? 5).map (·.size) = some 1 := by kernel_rfl
  cases hq : Try.prog.info? 5 with
  | none => rw [hq] at h; cases h
  | some i =>
    rw [hq] at h
    have hs : i.size = 1 := by simpa using h
    simp [sizeOf, typeInfo, hq, hs]
/-- two blocks: alike? -/
theorem bk_eq {x y : Blk} (hx : x.length = 128) (hy : y.length = 128) (w : World) : (Op.equalIn 10000 40 (.agg (bvs x).toArray) (.agg (bvs y).toArray)).run Try.prog w = .ok (x == y) w :=
  run_equalIn_bytes (P := Try.prog) w 9998 40 5 128 Try.underlying40 Try.underlying5 u8_sizeOf' x y hx hy
theorem bk_same {x : Blk} (hx : x.length = 128) (w : World) : (Op.equalIn 10000 40 (.agg (bvs x).toArray) (.agg (bvs x).toArray)).run Try.prog w = .ok true w := by
  have := bk_eq hx hx w
  rwa [beq_self_eq_true] at this
theorem ret_of {P : Program} {f : FuncId} {args : Array Value} {w : World} {v : Value} (h : Calls P f args w fun e w' => e = .returned v ∧ w = w') : Calls P f args w (Ret w v) :=
  h.mono fun _ _ ⟨a, b⟩ => ⟨a, b ▸ Below.refl _ _⟩

/-! ### the words of the test -/
def k1 : DS := (DS.new 16).write 1 (fillB 7)
def k2 : DS := k1.write 2 (fillB 8)
def k3 : DS := (k2.fuseTo 0).sync
def k4 : DS := k3.crash [1, 1] 1
theorem k_e1 : (DS.new 16).writeE 1 = 0 := by decide +kernel
theorem k_e2 : k1.writeE 2 = 0 := by decide +kernel
theorem k_e3 : k2.writeE 16 = 1 ∧ k2.inB 16 = false := by decide +kernel
theorem k_e3' (b : Blk) : k2.write 16 b = k2 := by unfold DS.write; rw [k_e3.2]; rfl
theorem k_lo : k2.lo.length = 2 := by decide +kernel
theorem k_e4 : (k2.fuseTo 0).passE = 12 := by decide +kernel
theorem k_e5 : k3.readE 1 = 12 := by decide +kernel
theorem k_dn : k3.down = true := by decide +kernel
theorem k_e6 : k4.readE 1 = 0 ∧ k4.readE 2 = 0 := by decide +kernel
theorem k_r1 : k4.read 1 = fillB 7 := by decide +kernel
theorem k_r2 : (k4.read 2)[63]? = some 8 ∧ (k4.read 2)[64]? = some 0 := by decide +kernel
theorem k_end : k4.lo.length = 0 ∧ k4.bl.length = 16 ∧ k4.done = 2 ∧ k4.down = false := by decide +kernel
theorem k_bd : k1.done < 4611686018427387904 ∧ k1.lo.length < 1000000 ∧ k2.done < 4611686018427387904 ∧ k2.lo.length < 1000000 ∧ (k2.fuseTo 0).done < 4611686018427387904 ∧ (k2.fuseTo 0).lo.length < 1000000 ∧ k3.lo.length < 1000000 ∧ k4.lo.length < 1000000 := by decide +kernel

end Go.Proofs.Ytnkdbkgihemjnaa
