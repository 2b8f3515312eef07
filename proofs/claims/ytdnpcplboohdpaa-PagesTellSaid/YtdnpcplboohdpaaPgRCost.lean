/- codexref20.Cost: the reference's price of a page. (s8/pgrcost.py writes it.) -/
import Derived.Test.YtdnpcplboohdpaaPgCost
import Derived.Test.YtdnpcplboohdpaaPgRep
namespace Go.Proofs.Ytdnpcplboohdpaa
set_option linter.unusedSimpArgs false
set_option linter.unusedVariables false
open Go.RowKit Go.Sort

theorem prZ : ZeroIs Try.prog 30 #[.int .i64 0, .bool false] := by unfold ZeroIs; kernel_rfl
theorem ejP_ge {l : List LN} {a b : Nat} (hb : b ≤ l.length) (ha : a ≤ l.length) (h : ∀ j : Nat, a ≤ j → j < b → ∀ y, l[j]? = some y → y.ej = false) : b ≤ ejP l a := by
  rcases Nat.lt_or_ge (ejP l a) b with h1 | h1
  · obtain ⟨x, hx, he⟩ := ejP_at (l := l) (a := a) (by omega)
    have := h _ (ejP_le ha).1 h1 x hx
    rw [he] at this; cases this
  · exact h1
theorem ejP_lt {l : List LN} {a i : Nat} {x : LN} (ha : a ≤ i) (hx : l[i]? = some x) (he : x.ej = true) : ejP l a ≤ i := by
  rcases Nat.lt_or_ge i (ejP l a) with h1 | h1
  · have := ejP_before ha h1 hx
    rw [he] at this; cases this
  · exact h1
def ptr (b : Bool) (n : Int) : Int := if b then n else 0
theorem beq_eq_decide (a b : Int) : (a == b) = decide (a = b) := rfl
def prv (n : Int) (ok : Bool) : Value := .agg #[.int .i64 n, .bool ok]
theorem built_pr (n : Int) : Try.prog.built 30 [(0, .int .i64 n), (1, .bool true)] = some #[.int .i64 n, .bool true] := by kernel_rfl
theorem pr_info (n : Int) : (Try.prog.info? 30).map (·.size) = some (#[.int .i64 n, .bool true] : Array Value).size := by kernel_rfl
theorem pr_zs {zp : Array Value} (h : zp.size = 2) (n : Int) : zp.size = (#[.int .i64 n, .bool true] : Array Value).size := by rw [h]; rfl
theorem pr_one (n : Int) : (#[.int .i64 n, .bool true] : Array Value).all (·.oneCell') = true := by simp [Value.oneCell']
theorem pr_end {w W : World} {g : Nat} {zp : Array Value} {n : Int} {ok : Bool} (y8 : W.heap[g]? = some (.cells zp 30)) (hB : Below w.heap.size w W) (hg : w.heap.size ≤ g) :
    (loadVar 30 ⟨g, 0, none⟩).run Try.prog (W.setRow g #[.int .i64 n, .bool ok]) = .ok (.agg #[.int .i64 n, .bool ok]) (W.setRow g #[.int .i64 n, .bool ok]) ∧ Below w.heap.size w (W.setRow g #[.int .i64 n, .bool ok]) :=
  ⟨run_loadVar_row (P := Try.prog) _ _ _ 30 _ _ _ (setRow_heap _ _ _ _ _ _ y8) Try.underlying30 rfl (by kernel_rfl), bSetRow hB hg _⟩
set_option maxRecDepth 100000 in
theorem rcost_no {A : Option Addr} {n c : Nat} {a b h : Int} (w : World) (hh : h ≤ 1000000) (hn : n ≤ 4611686018427387904) (hw : a < 0 ∨ (0 ≤ a ∧ b ≤ a) ∨ (0 ≤ a ∧ a < b ∧ (n : Int) < b) ∨ (0 ≤ a ∧ a < b ∧ b ≤ n ∧ h < b - a)) :
    Calls Try.prog 12 #[.slice A n c, .int .i64 a, .int .i64 b, .int .i64 h] w (Ret w (prv 0 false)) := by
  have hpz := prZ
  obtain ⟨zp, hzp⟩ : ∃ q : Array Value, #[.int .i64 0, .bool false] = q := ⟨_, rfl⟩
  have hz2 : zp.size = 2 := by rw [← hzp]; rfl
  rw [hzp] at hpz
  clear hzp
  have fn : Try.prog.built 30 [] = some #[.int .i64 0, .bool false] := by kernel_rfl
  have fn_i : (Try.prog.info? 30).map (·.size) = some (#[.int .i64 0, .bool false] : Array Value).size := by kernel_rfl
  have fn_z : zp.size = (#[.int .i64 0, .bool false] : Array Value).size := by rw [hz2]; rfl
  have fn_o : (#[.int .i64 0, .bool false] : Array Value).all (·.oneCell') = true := by simp [Value.oneCell']
  go_enter Try.func12, Try.ntmps12
  go_upto_region 1 with (first | (refine wpList_new rfl hpz rfl ?_) | fail)
  obtain ⟨W, hW⟩ : ∃ q, w.alloc (.cells zp 30) = q := ⟨_, rfl⟩
  have y8 : W.heap[w.heap.size]? = some (.cells zp 30) := by rw [← hW]; exact heap_alloc_new _ _
  have hB : Below w.heap.size w W := by rw [← hW]; exact (Below.refl _ _).alloc (Nat.le_refl _) _
  rw [hW]
  clear hW
  have HBB := Lib.hid hB
  clear hB
  obtain ⟨g8, hg⟩ : ∃ q, w.heap.size = q := ⟨_, rfl⟩
  have hg8 : w.heap.size ≤ g8 := by omega
  rw [hg] at y8 ⊢
  clear hg
  rcases hw with g1 | ⟨g1, g2⟩ | ⟨g1, g2, g3⟩ | ⟨g1, g2, g3, g4⟩
  · skip
    go_wp2_with (first
      | (refine wpList_built rfl 30 #[] rfl (cs := #[.int .i64 0, .bool false]) (by simp only [List.map_toArray, List.map_cons, List.map_nil]; exact fn) ?_)
      | (refine wpList_store_row rfl 30 (.tmp 8) (.tmp 33) rfl _ #[.int .i64 0, .bool false] rfl rfl _ zp y8 fn_i fn_z fn_o ?_)
      | fail)
    generalize hX : World.setRow _ _ _ = X9
    have b9 : X9.heap[g8]? = some (.cells #[.int .i64 0, .bool false] 30) := by rw [← hX]; exact setRow_heap _ _ _ _ _ _ y8
    have hBX : Below w.heap.size w X9 := by rw [← hX]; exact bSetRow HBB.out hg8 _
    clear hX
    have hld := run_loadVar_row (P := Try.prog) X9 _ _ 30 _ _ _ b9 Try.underlying30 rfl fn_i
    refine bodyPost_ret (by simp [results, Try.results12, Act.put, asAddr, Result.andThen, hld]; try rfl) rfl ?_
    exact Ret.mk (rfl) hBX
  · have n1 : ¬ a < 0 := by omega
    go_wp2_with (first
      | (refine wpList_built rfl 30 #[] rfl (cs := #[.int .i64 0, .bool false]) (by simp only [List.map_toArray, List.map_cons, List.map_nil]; exact fn) ?_)
      | (refine wpList_store_row rfl 30 (.tmp 8) (.tmp 33) rfl _ #[.int .i64 0, .bool false] rfl rfl _ zp y8 fn_i fn_z fn_o ?_)
      | fail)
    generalize hX : World.setRow _ _ _ = X9
    have b9 : X9.heap[g8]? = some (.cells #[.int .i64 0, .bool false] 30) := by rw [← hX]; exact setRow_heap _ _ _ _ _ _ y8
    have hBX : Below w.heap.size w X9 := by rw [← hX]; exact bSetRow HBB.out hg8 _
    clear hX
    have hld := run_loadVar_row (P := Try.prog) X9 _ _ 30 _ _ _ b9 Try.underlying30 rfl fn_i
    refine bodyPost_ret (by simp [results, Try.results12, Act.put, asAddr, Result.andThen, hld]; try rfl) rfl ?_
    exact Ret.mk (rfl) hBX
  · have n1 : ¬ a < 0 := by omega
    have n2 : ¬ b ≤ a := by omega
    go_wp2_with (first
      | (refine wpList_built rfl 30 #[] rfl (cs := #[.int .i64 0, .bool false]) (by simp only [List.map_toArray, List.map_cons, List.map_nil]; exact fn) ?_)
      | (refine wpList_store_row rfl 30 (.tmp 8) (.tmp 33) rfl _ #[.int .i64 0, .bool false] rfl rfl _ zp y8 fn_i fn_z fn_o ?_)
      | fail)
    generalize hX : World.setRow _ _ _ = X9
    have b9 : X9.heap[g8]? = some (.cells #[.int .i64 0, .bool false] 30) := by rw [← hX]; exact setRow_heap _ _ _ _ _ _ y8
    have hBX : Below w.heap.size w X9 := by rw [← hX]; exact bSetRow HBB.out hg8 _
    clear hX
    have hld := run_loadVar_row (P := Try.prog) X9 _ _ 30 _ _ _ b9 Try.underlying30 rfl fn_i
    refine bodyPost_ret (by simp [results, Try.results12, Act.put, asAddr, Result.andThen, hld]; try rfl) rfl ?_
    exact Ret.mk (rfl) hBX
  · have n1 : ¬ a < 0 := by omega
    have n2 : ¬ b ≤ a := by omega
    have n3 : ¬ (n : Int) < b := by omega
    have w1 : IntKind.i64.wrap (b - a) = b - a := wrap_small _ (by omega) (by omega)
    go_wp2_with (first
      | (refine wpList_built rfl 30 #[] rfl (cs := #[.int .i64 0, .bool false]) (by simp only [List.map_toArray, List.map_cons, List.map_nil]; exact fn) ?_)
      | (refine wpList_store_row rfl 30 (.tmp 8) (.tmp 33) rfl _ #[.int .i64 0, .bool false] rfl rfl _ zp y8 fn_i fn_z fn_o ?_)
      | fail)
    generalize hX : World.setRow _ _ _ = X9
    have b9 : X9.heap[g8]? = some (.cells #[.int .i64 0, .bool false] 30) := by rw [← hX]; exact setRow_heap _ _ _ _ _ _ y8
    have hBX : Below w.heap.size w X9 := by rw [← hX]; exact bSetRow HBB.out hg8 _
    clear hX
    have hld := run_loadVar_row (P := Try.prog) X9 _ _ 30 _ _ _ b9 Try.underlying30 rfl fn_i
    refine bodyPost_ret (by simp [results, Try.results12, Act.put, asAddr, Result.andThen, hld]; try rfl) rfl ?_
    exact Ret.mk (rfl) hBX
set_option maxHeartbeats 16000000 in
set_option maxRecDepth 100000 in
theorem rcost_yes {A : Option Addr} {n c : Nat} {l : List LN} {a b : Nat} {h : Int} (w : World) (hl : LnAt w w.heap.size A n c l) (hone : ∀ x ∈ l, x.One) (hh : h ≤ 1000000) (hn : n ≤ 4611686018427387904) (h1 : a < b) (h2 : b ≤ n) (h3 : (b : Int) - a ≤ h) :
    Calls Try.prog 12 #[.slice A n c, .int .i64 (a : Int), .int .i64 (b : Int), .int .i64 h] w (Ret w (prv (costN l a b h) (pgOk l a b h))) := by
  have hln := hl.len
  have hno := pg_ej (l := l) (a := (a : Int)) (b := (b : Int)) (h := h)
  have hyes := pg_yes (l := l) (a := (a : Int)) (b := (b : Int)) (h := h) ⟨by omega, by omega, by omega, by omega⟩
  rw [Int.toNat_natCast] at hno hyes
  have n1 : ¬ (a : Int) < 0 := by omega
  have n2 : ¬ (b : Int) ≤ (a : Int) := by omega
  have n3 : ¬ (n : Int) < (b : Int) := by omega
  have w1 : IntKind.i64.wrap ((b : Int) - (a : Int)) = (b : Int) - (a : Int) := wrap_small _ (by omega) (by omega)
  have n4 : ¬ h < (b : Int) - (a : Int) := by omega
  have hpz := prZ
  obtain ⟨zp, hzp⟩ : ∃ q : Array Value, #[.int .i64 0, .bool false] = q := ⟨_, rfl⟩
  have hz2 : zp.size = 2 := by rw [← hzp]; rfl
  rw [hzp] at hpz
  clear hzp
  have fn : Try.prog.built 30 [] = some #[.int .i64 0, .bool false] := by kernel_rfl
  have fn_i : (Try.prog.info? 30).map (·.size) = some (#[.int .i64 0, .bool false] : Array Value).size := by kernel_rfl
  have fn_z : zp.size = (#[.int .i64 0, .bool false] : Array Value).size := by rw [hz2]; rfl
  have fn_o : (#[.int .i64 0, .bool false] : Array Value).all (·.oneCell') = true := by simp [Value.oneCell']
  have ft : Try.prog.built 30 [(0, .int .i64 0), (1, .bool true)] = some #[.int .i64 0, .bool true] := by kernel_rfl
  have ft_i : (Try.prog.info? 30).map (·.size) = some (#[.int .i64 0, .bool true] : Array Value).size := by kernel_rfl
  have ft_z : zp.size = (#[.int .i64 0, .bool true] : Array Value).size := by rw [hz2]; rfl
  have ft_o : (#[.int .i64 0, .bool true] : Array Value).all (·.oneCell') = true := by simp [Value.oneCell']
  obtain ⟨R, hR⟩ : ∃ q, prv (costN l a b h) (pgOk l a b h) = q := ⟨_, rfl⟩
  rw [hR]
  have HY := Lib.hid (And.intro hno (And.intro hyes hR))
  have hbA := hl
  clear hno hyes hR
  go_enter Try.func12, Try.ntmps12
  go_upto_region 1 with (first | (refine wpList_new rfl hpz rfl ?_) | fail)
  obtain ⟨W, hW⟩ : ∃ q, w.alloc (.cells zp 30) = q := ⟨_, rfl⟩
  have y8 : W.heap[w.heap.size]? = some (.cells zp 30) := by rw [← hW]; exact heap_alloc_new _ _
  have hB : Below w.heap.size w W := by rw [← hW]; exact (Below.refl _ _).alloc (Nat.le_refl _) _
  rw [hW]
  clear hW
  have HL := Lib.hid (And.intro (hl.nxt hB) (And.intro hln hone))
  have HBB := Lib.hid hB
  clear hl hln hone hB hbA
  obtain ⟨g8, hg⟩ : ∃ q, w.heap.size = q := ⟨_, rfl⟩
  have hg8 : w.heap.size ≤ g8 := by omega
  rw [hg] at y8 ⊢
  clear hg
  go_upto_region 3 with (fail)
  go_wp2_with fail
  go_loopw [9] (fun s9 wr => ∃ i : Nat, a ≤ i ∧ i ≤ b ∧ s9 = .int .i64 i ∧ wr = W ∧ Hid (∀ j : Nat, a ≤ j → j < i → ∀ y, l[j]? = some y → y.ej = false)) (fun i _ => b - (intOf i).toNat)
  case atStart => exact ⟨a, by omega, by omega, rfl, rfl, Lib.hid (fun j h1 h2 => by omega)⟩
  case round =>
    obtain ⟨i, hi1, hi2, rfl, rfl, HG⟩ := hrel
    by_cases hib : i < b
    · have hib' : (i : Int) < (b : Int) := by omega
      have hin' : (i : Int) < (n : Int) := by omega
      have hi0 : (0 : Int) ≤ (i : Int) := by omega
      obtain ⟨x, hx⟩ : ∃ x, l[i]? = some x := ⟨_, List.getElem?_eq_getElem (by rw [HL.out.2.1]; omega)⟩
      obtain ⟨o', o, rfl, hbB, hxr⟩ := HL.out.1.entry hx
      have hk := (ln_cells hxr).1
      by_cases hej : x.kind = 4
      · rw [hej] at hk
        have HE := Lib.hid (ejP_lt hi1 hx (by unfold LN.ej; exact decide_eq_true hej))
        clear hx hxr hej HG
        go_wp2_with (first
          | (refine wpList_built rfl 30 #[] rfl (cs := #[.int .i64 0, .bool false]) (by simp only [List.map_toArray, List.map_cons, List.map_nil]; exact fn) ?_)
          | (refine wpList_store_row rfl 30 (.tmp 8) (.tmp 46) rfl _ #[.int .i64 0, .bool false] rfl rfl _ zp y8 fn_i fn_z fn_o ?_)
          | fail)
        generalize hX : World.setRow _ _ _ = X9
        have b9 : X9.heap[g8]? = some (.cells #[.int .i64 0, .bool false] 30) := by rw [← hX]; exact setRow_heap _ _ _ _ _ _ y8
        have hBX : Below w.heap.size w X9 := by rw [← hX]; exact bSetRow HBB.out hg8 _
        clear hX
        have hld := run_loadVar_row (P := Try.prog) X9 _ _ 30 _ _ _ b9 Try.underlying30 rfl fn_i
        refine bodyPost_ret (by simp [results, Try.results12, Act.put, asAddr, Result.andThen, hld]; try rfl) rfl ?_
        exact Ret.mk (by rw [← HY.out.2.2, (HY.out.1 (by have := HE.out; omega)).1, (HY.out.1 (by have := HE.out; omega)).2]; rfl) hBX
      · have g1 : IntKind.i64.wrap ((i : Int) + 1) = ((i + 1 : Nat) : Int) := by rw [wrap_small _ (by omega) (by omega)]; omega
        have HX := Lib.hid (And.intro hx (show x.ej = false by unfold LN.ej; exact decide_eq_false hej))
        clear hx hxr
        go_wp2_with fail
        go_roundw
        case rel =>
          refine ⟨i + 1, by omega, by omega, by go_num, by trivial, Lib.hid (fun j h1 h2 y hy => ?_)⟩
          rcases Nat.lt_or_ge j i with h3 | h3
          · exact HG.out j h1 h3 y hy
          · obtain rfl : j = i := by omega
            rw [HX.out.1] at hy
            cases hy
            exact HX.out.2
        case measure => simp [intOf]; omega
    · obtain rfl : i = b := by omega
      have hib' : ¬ (i : Int) < (i : Int) := by omega
      have hge := ejP_ge (l := l) (a := a) (b := i) (by rw [HL.out.2.1]; omega) (by rw [HL.out.2.1]; omega) HG.out
      have hRR := HY.out.2.2
      rw [(HY.out.2.1 (by omega)).1, (HY.out.2.1 (by omega)).2] at hRR
      clear hge HG HY
      rename World => W
      by_cases hbn : i = n
      · subst hbn
        have hp : price l a i h = 0 := by
          unfold price
          rw [Int.toNat_natCast, List.getElem?_eq_none (by rw [HL.out.2.1]; exact Nat.le_refl _)]
        rw [hp] at hRR
        clear hp
        have HRR := Lib.hid hRR
        clear hRR
        go_upto_region 9 with (fail)
        go_wp2_with (first
          | (refine wpList_built rfl 30 #[(0, .const (.int .i64 0)), (1, .const (.bool true))] rfl (cs := #[.int .i64 0, .bool true]) (by simp only [List.map_toArray, List.map_cons, List.map_nil]; exact ft) ?_)
          | (refine wpList_store_row rfl 30 (.tmp 8) (.tmp 59) rfl _ #[.int .i64 0, .bool true] rfl rfl _ zp y8 ft_i ft_z ft_o ?_)
          | fail)
        generalize hX : World.setRow _ _ _ = X9
        have b9 : X9.heap[g8]? = some (.cells #[.int .i64 0, .bool true] 30) := by rw [← hX]; exact setRow_heap _ _ _ _ _ _ y8
        have hBX : Below w.heap.size w X9 := by rw [← hX]; exact bSetRow HBB.out hg8 _
        clear hX
        have hld := run_loadVar_row (P := Try.prog) X9 _ _ 30 _ _ _ b9 Try.underlying30 rfl ft_i
        refine bodyPost_ret (by simp [results, Try.results12, Act.put, asAddr, Result.andThen, hld]; try rfl) rfl ?_
        exact Ret.mk (by rw [← HRR.out]; rfl) hBX
      · have hbn1 : i < n := by omega
        have hbn2 : (i : Int) < (n : Int) := by omega
        have hbn3 : ¬ (i : Int) = (n : Int) := by omega
        have hbn4 : ((i : Int) == (n : Int)) = false := by simpa using hbn3
        obtain ⟨q, hq⟩ : ∃ q, l[i]? = some q := ⟨_, List.getElem?_eq_getElem (by rw [HL.out.2.1]; exact hbn1)⟩
        obtain ⟨d, hd⟩ : ∃ d, i - 1 = d := ⟨_, rfl⟩
        obtain ⟨x, hx⟩ : ∃ x, l[d]? = some x := ⟨_, List.getElem?_eq_getElem (by rw [HL.out.2.1]; omega)⟩
        have hp : price l a i h = if q.ej then 0 else lack a i h + (if x.first && !x.last then 150 else 0) + (if q.last && !q.first then 150 else 0) + (if decide (x.kind = 2) then 500 else 0) := by
          unfold price
          rw [Int.toNat_natCast, hq, hd, hx]
        have HR := Lib.hid (And.intro hp hRR)
        clear hp hRR
        have hqo := HL.out.2.2 q (List.mem_of_getElem? hq)
        have hxo := HL.out.2.2 x (List.mem_of_getElem? hx)
        obtain ⟨o', o, rfl, hbB, hqr⟩ := HL.out.1.entry hq
        obtain ⟨o1, o2, e1, -, hxr⟩ := HL.out.1.entry hx
        simp only [Option.some.injEq, Addr.mk.injEq, and_true] at e1
        obtain ⟨rfl, rfl⟩ := e1
        obtain ⟨c0, -, -, -, -⟩ := ln_cells hqr
        have hi0 : (0 : Int) ≤ (i : Int) := by omega
        clear hq hx
        by_cases hqe : q.kind = 4
        · have hqj : q.ej = true := decide_eq_true hqe
          rw [hqe] at c0
          have HRR := Lib.hid (by have := HR.out.2; rw [HR.out.1, hqj, if_pos rfl] at this; exact this)
          clear hqj hqe HR hqr hxr
          go_upto_region 9 with (fail)
          go_wp2_with (first
            | (refine wpList_built rfl 30 #[(0, .const (.int .i64 0)), (1, .const (.bool true))] rfl (cs := #[.int .i64 0, .bool true]) (by simp only [List.map_toArray, List.map_cons, List.map_nil]; exact ft) ?_)
            | (refine wpList_store_row rfl 30 (.tmp 8) (.tmp 59) rfl _ #[.int .i64 0, .bool true] rfl rfl _ zp y8 ft_i ft_z ft_o ?_)
            | fail)
          generalize hX : World.setRow _ _ _ = X9
          have b9 : X9.heap[g8]? = some (.cells #[.int .i64 0, .bool true] 30) := by rw [← hX]; exact setRow_heap _ _ _ _ _ _ y8
          have hBX : Below w.heap.size w X9 := by rw [← hX]; exact bSetRow HBB.out hg8 _
          clear hX
          have hld := run_loadVar_row (P := Try.prog) X9 _ _ 30 _ _ _ b9 Try.underlying30 rfl ft_i
          refine bodyPost_ret (by simp [results, Try.results12, Act.put, asAddr, Result.andThen, hld]; try rfl) rfl ?_
          exact Ret.mk (by rw [← HRR.out]; rfl) hBX
        · have hqj : q.ej = false := decide_eq_false hqe
          have hqe4 : (q.kind == 4) = false := by simpa using hqe
          have hR := HR.out.1
          rw [hqj, if_neg Bool.false_ne_true] at hR
          have hRR := HR.out.2
          rw [hR] at hRR
          clear hqj HR hR
          have v1 : IntKind.i64.wrap (h - ((i : Int) - (a : Int))) = h - ((i : Int) - (a : Int)) := wrap_small _ (by omega) (by omega)
          have hfew : 0 ≤ h - ((i : Int) - (a : Int)) ∧ h - ((i : Int) - (a : Int)) ≤ 1000000 := by omega
          have hlk : lack a i h = 10 * (h - ((i : Int) - (a : Int))) * (h - ((i : Int) - (a : Int))) := rfl
          obtain ⟨t, ht⟩ : ∃ t, h - ((i : Int) - (a : Int)) = t := ⟨_, rfl⟩
          replace v1 := v1.trans ht
          rw [ht] at hfew hlk
          have hsq : 0 ≤ t * t ∧ t * t ≤ 1000000000000 := ⟨Int.mul_nonneg hfew.1 hfew.1, by have := Int.mul_le_mul hfew.2 hfew.2 hfew.1 (by omega); simpa using this⟩
          have hm : 10 * t * t = 10 * (t * t) := Int.mul_assoc _ _ _
          have v2 : IntKind.i64.wrap (10 * t) = 10 * t := wrap_small _ (by omega) (by omega)
          have v3 : IntKind.i64.wrap (10 * t * t) = 10 * t * t := wrap_small _ (by omega) (by omega)
          rw [hlk] at hRR
          obtain ⟨L, hL⟩ : ∃ L, 10 * t * t = L := ⟨_, rfl⟩
          replace v3 := v3.trans hL
          have hLb0 : 0 ≤ L ∧ L ≤ 10000000000000 := by omega
          rw [hL] at hRR
          have HR := Lib.hid hRR
          clear hRR
          have hLb := hLb0
          clear hlk hsq hm hLb0
          have HT := Lib.hid (And.intro ht hL)
          clear ht hL
          have g0 : IntKind.i64.wrap ((i : Int) - 1) = (d : Int) := by rw [wrap_small _ (by omega) (by omega)]; omega
          have hdn : d < n := by omega
          have hdn' : (d : Int) < (n : Int) := by omega
          have hob := hbB
          go_upto_region 11 with (fail)
          obtain ⟨w1, hw1⟩ : ∃ q, W = q := ⟨_, rfl⟩
          rw [hw1] at y8 HBB HL hob hqr hxr c0 ⊢
          clear hw1
          have ix := ln_linfo x
          have iq := ln_linfo q
          have jx := ln_info x
          have jq := ln_info q
          have ox := one_ln hxo
          have oq := one_ln hqo
          have hzE := lnZ
          obtain ⟨z, hz⟩ : ∃ z, (#[.int .i64 0, .bool false, .bool false, .bool false, .slice none 0 0] : Array Value) = z := ⟨_, rfl⟩
          have hz5 : z.size = x.cells.toArray.size := by rw [← hz]; rfl
          have hz5' : z.size = q.cells.toArray.size := by rw [← hz]; rfl
          rw [hz] at hzE
          clear hz
          have HY8 := Lib.hid y8
          have HFN := Lib.hid (And.intro fn (And.intro fn_i (And.intro fn_z fn_o)))
          have HFT := Lib.hid (And.intro ft (And.intro ft_i (And.intro ft_z ft_o)))
          clear y8 fn fn_i fn_z fn_o ft ft_i ft_z ft_o
          go_cut [11, 12] from 72 to 80 (fun s12 s13 wx => ∃ e1 e2 : Nat, s12 = .pointer (some ⟨e1, 0, none⟩) ∧ s13 = .pointer (some ⟨e2, 0, none⟩) ∧ wx.heap[e1]? = some (.cells x.cells.toArray 45) ∧ wx.heap[e2]? = some (.cells q.cells.toArray 45) ∧ Below w1.heap.size w1 wx)
          case first =>
            let S : World → Prop := fun w' => Below w1.heap.size w1 w'
            have hS0 : S w1.drew := (Below.refl _ _).drew
            have rx : ∀ w', S w' → w'.rangeAt o' (o + d * 5) x.cells := fun w' h => bRange h hob hxr
            have rq : ∀ w', S w' → w'.rangeAt o' (o + i * 5) q.cells := fun w' h => bRange h hob hqr
            clear hxr hqr c0
            refine wp_region_held (S := S) (by kernel_rfl) ?_
            change wpAnyH _ _ _ _ S _ _ _ w1.drew
            refine wpAnyH_take (i := 0) (oi := ?oi_1) (v := ?v_1) ?ho_1 ?h1_1 ?h2_1 ?h3_1 ?hq_1 (Or.inl ⟨?hw_1, ?hy_1⟩) ?hs_1 ?rest_1; (case h2_1 => kernel_rfl); (case h3_1 => kernel_rfl); (case ho_1 => (simp only [List.getElem?_toArray, List.getElem?_cons_zero, List.getElem?_cons_succ]; rfl)); (case h1_1 => kernel_rfl); (case hq_1 => exact fun _ _ _ h => h); (case hw_1 => rfl); (case hy_1 => (intro w' hSw; (try simp only [S] at hSw); go_simp; (try with_reducible rfl))); (case hs_1 => assumption); (try simp only [Act.put, List.setIfInBounds_toArray, List.set_cons_zero, List.set_cons_succ])
            refine wpAnyH_take (i := 1) (oi := ?oi_2) (v := ?v_2) ?ho_2 ?h1_2 ?h2_2 ?h3_2 ?hq_2 (Or.inl ⟨?hw_2, ?hy_2⟩) ?hs_2 ?rest_2; (case h2_2 => kernel_rfl); (case h3_2 => kernel_rfl); (case ho_2 => (simp only [List.getElem?_toArray, List.getElem?_cons_zero, List.getElem?_cons_succ]; rfl)); (case h1_2 => kernel_rfl); (case hq_2 => exact fun _ _ _ h => h); (case hw_2 => rfl); (case hy_2 => (intro w' hSw; (try simp only [S] at hSw); go_simp; (try with_reducible rfl))); (case hs_2 => assumption); (try simp only [Act.put, List.setIfInBounds_toArray, List.set_cons_zero, List.set_cons_succ])
            refine wpAnyH_take (i := 2) (oi := ?oi_3) (v := ?v_3) ?ho_3 ?h1_3 ?h2_3 ?h3_3 ?hq_3 (Or.inl ⟨?hw_3, ?hy_3⟩) ?hs_3 ?rest_3; (case h2_3 => kernel_rfl); (case h3_3 => kernel_rfl); (case ho_3 => (simp only [List.getElem?_toArray, List.getElem?_cons_zero, List.getElem?_cons_succ]; rfl)); (case h1_3 => kernel_rfl); (case hq_3 => exact fun _ _ _ h => h); (case hw_3 => rfl); (case hy_3 => (intro w' hSw; (try simp only [S] at hSw); go_simp; (try with_reducible rfl))); (case hs_3 => assumption); (try simp only [Act.put, List.setIfInBounds_toArray, List.set_cons_zero, List.set_cons_succ])
            refine wpAnyH_take (i := 3) (oi := ?oi_4) (v := ?v_4) ?ho_4 ?h1_4 ?h2_4 ?h3_4 ?hq_4 (Or.inl ⟨?hw_4, ?hy_4⟩) ?hs_4 ?rest_4; (case h2_4 => kernel_rfl); (case h3_4 => kernel_rfl); (case ho_4 => (simp only [List.getElem?_toArray, List.getElem?_cons_zero, List.getElem?_cons_succ]; rfl)); (case h1_4 => kernel_rfl); (case hq_4 => exact fun _ _ _ h => h); (case hw_4 => rfl); (case hy_4 => (intro w' hSw; (try simp only [S] at hSw); go_simp; (try with_reducible rfl))); (case hs_4 => assumption); (try simp only [Act.put, List.setIfInBounds_toArray, List.set_cons_zero, List.set_cons_succ])
            refine wpAnyH_take (i := 4) (oi := ?oi_8) (v := ?v_8) ?ho_8 ?h1_8 ?h2_8 ?h3_8 ?hq_8 (Or.inl ⟨?hw_8, ?hy_8⟩) ?hs_8 ?rest_8; (case h2_8 => kernel_rfl); (case h3_8 => kernel_rfl); (case ho_8 => (simp only [List.getElem?_toArray, List.getElem?_cons_zero, List.getElem?_cons_succ]; rfl)); (case h1_8 => kernel_rfl); (case hq_8 => exact fun _ _ _ h => h); (case hw_8 => rfl); (case hy_8 => (intro w' hSw; refine exec_load_row (x := .tmp 75) ?_ ?_ (rx w' hSw) Try.underlying45 ?_ ix <;> rfl)); (case hs_8 => assumption); (try simp only [Act.put, List.setIfInBounds_toArray, List.set_cons_zero, List.set_cons_succ])
            refine wpAnyH_take (i := 5) (oi := ?oi_5) (v := ?v_5) ?ho_5 ?h1_5 ?h2_5 ?h3_5 ?hq_5 (Or.inl ⟨?hw_5, ?hy_5⟩) ?hs_5 ?rest_5; (case h2_5 => kernel_rfl); (case h3_5 => kernel_rfl); (case ho_5 => (simp only [List.getElem?_toArray, List.getElem?_cons_zero, List.getElem?_cons_succ]; rfl)); (case h1_5 => kernel_rfl); (case hq_5 => exact fun _ _ _ h => h); (case hw_5 => rfl); (case hy_5 => (intro w' hSw; (try simp only [S] at hSw); go_simp; (try with_reducible rfl))); (case hs_5 => assumption); (try simp only [Act.put, List.setIfInBounds_toArray, List.set_cons_zero, List.set_cons_succ])
            refine wpAnyH_take (i := 6) (oi := ?oi_6) (v := ?v_6) ?ho_6 ?h1_6 ?h2_6 ?h3_6 ?hq_6 (Or.inl ⟨?hw_6, ?hy_6⟩) ?hs_6 ?rest_6; (case h2_6 => kernel_rfl); (case h3_6 => kernel_rfl); (case ho_6 => (simp only [List.getElem?_toArray, List.getElem?_cons_zero, List.getElem?_cons_succ]; rfl)); (case h1_6 => kernel_rfl); (case hq_6 => exact fun _ _ _ h => h); (case hw_6 => rfl); (case hy_6 => (intro w' hSw; (try simp only [S] at hSw); go_simp; (try with_reducible rfl))); (case hs_6 => assumption); (try simp only [Act.put, List.setIfInBounds_toArray, List.set_cons_zero, List.set_cons_succ])
            refine wpAnyH_take (i := 7) (oi := ?oi_7) (v := ?v_7) ?ho_7 ?h1_7 ?h2_7 ?h3_7 ?hq_7 (Or.inl ⟨?hw_7, ?hy_7⟩) ?hs_7 ?rest_7; (case h2_7 => kernel_rfl); (case h3_7 => kernel_rfl); (case ho_7 => (simp only [List.getElem?_toArray, List.getElem?_cons_zero, List.getElem?_cons_succ]; rfl)); (case h1_7 => kernel_rfl); (case hq_7 => exact fun _ _ _ h => h); (case hw_7 => rfl); (case hy_7 => (intro w' hSw; (try simp only [S] at hSw); go_simp; (try with_reducible rfl))); (case hs_7 => assumption); (try simp only [Act.put, List.setIfInBounds_toArray, List.set_cons_zero, List.set_cons_succ])
            refine wpAnyH_take (i := 8) (oi := ?oi_9) (v := ?v_9) ?ho_9 ?h1_9 ?h2_9 ?h3_9 ?hq_9 (Or.inl ⟨?hw_9, ?hy_9⟩) ?hs_9 ?rest_9; (case h2_9 => kernel_rfl); (case h3_9 => kernel_rfl); (case ho_9 => (simp only [List.getElem?_toArray, List.getElem?_cons_zero, List.getElem?_cons_succ]; rfl)); (case h1_9 => kernel_rfl); (case hq_9 => exact fun _ _ _ h => h); (case hw_9 => rfl); (case hy_9 => (intro w' hSw; refine exec_load_row (x := .tmp 79) ?_ ?_ (rq w' hSw) Try.underlying45 ?_ iq <;> rfl)); (case hs_9 => assumption); (try simp only [Act.put, List.setIfInBounds_toArray, List.set_cons_zero, List.set_cons_succ])
            refine wpAnyH_ready (rs := [9, 10]) (by kernel_rfl) (by simp) (AllReadyH.cons (o := ?oo9_10) ?hoo9_10 (fun K hK => ?step9) (AllReadyH.cons (o := ?oo10_10) ?hoo10_10 (fun K hK => ?step10) AllReadyH.nil)); (case hoo9_10 => (simp only [List.getElem?_toArray, List.getElem?_cons_zero, List.getElem?_cons_succ]; rfl)); (case hoo10_10 => (simp only [List.getElem?_toArray, List.getElem?_cons_zero, List.getElem?_cons_succ]; rfl))
            case step9 =>
              refine step_new rfl hzE rfl ?_
              have hS1 : S (w1.drew.alloc (.cells z 45)) := (Below.refl _ w1).drew.alloc (Nat.le_refl _) _
              have b1 : (w1.drew.alloc (.cells z 45)).heap[w1.heap.size]? = some (.cells z 45) := heap_alloc_new w1.drew _
              refine hK.out _ _ hS1 (fun _ => ?_)
              clear hK K
              (try simp only [Act.put, List.setIfInBounds_toArray, List.set_cons_zero, List.set_cons_succ])
              obtain ⟨U, hU⟩ : ∃ q, w1.drew.alloc (.cells z 45) = q := ⟨_, rfl⟩
              rw [hU] at hS1 b1 ⊢
              clear hU
              refine wpAnyH_ready (rs := [10]) (by kernel_rfl) (by simp) (AllReadyH.cons (o := ?oo10_11) ?hoo10_11 (fun K hK => ?steponly11) AllReadyH.nil); (case hoo10_11 => (simp only [List.getElem?_toArray, List.getElem?_cons_zero, List.getElem?_cons_succ]; rfl))
              refine step_new rfl hzE rfl ?_
              have hzU := (show Below w1.heap.size w1 U from hS1).size
              have hbA : Below U.heap.size U (U.alloc (.cells z 45)) := (Below.refl _ _).alloc (Nat.le_refl _) _
              have hS2 : S (U.alloc (.cells z 45)) := (show Below w1.heap.size w1 U from hS1).trans (hbA.mono hzU)
              have l1 := (Array.getElem?_eq_some_iff.1 b1).1
              have c1 := bBlk hbA l1 b1
              have c2 := heap_alloc_new U (.cells z 45)
              refine hK.out _ _ hS2 (fun _ => ?_)
              clear hK K
              (try simp only [Act.put, List.setIfInBounds_toArray, List.set_cons_zero, List.set_cons_succ])
              obtain ⟨UA, hUA⟩ : ∃ q, U.alloc (.cells z 45) = q := ⟨_, rfl⟩
              rw [hUA] at hS2 c1 c2 ⊢
              clear hUA hbA
              have hne : w1.heap.size ≠ U.heap.size := by omega
              refine wpAnyH_ready (rs := [11]) (by kernel_rfl) (by simp) (AllReadyH.cons (o := ?oo11_12) ?hoo11_12 (fun K hK => ?steponly12) AllReadyH.nil); (case hoo11_12 => (simp only [List.getElem?_toArray, List.getElem?_cons_zero, List.getElem?_cons_succ]; rfl))
              refine step_row rfl 45 (.tmp 11) (.tmp 76) rfl w1.heap.size x.cells.toArray rfl rfl _ z c1 jx hz5 ox ?_
              have hS3 : S (UA.setRow w1.heap.size x.cells.toArray) := bSetRow hS2 (by omega) _
              have d1 : (UA.setRow w1.heap.size x.cells.toArray).heap[w1.heap.size]? = some (.cells x.cells.toArray 45) := setRow_heap _ _ _ _ _ _ c1
              have d2 : (UA.setRow w1.heap.size x.cells.toArray).heap[U.heap.size]? = some (.cells z 45) := (setRow_other _ _ _ _ (by omega)).trans c2
              refine hK.out _ _ hS3 (fun _ => ?_)
              clear hK K
              (try simp only [Act.put, List.setIfInBounds_toArray, List.set_cons_zero, List.set_cons_succ])
              obtain ⟨UB, hUB⟩ : ∃ q, UA.setRow w1.heap.size x.cells.toArray = q := ⟨_, rfl⟩
              rw [hUB] at hS3 d1 d2 ⊢
              clear hUB
              refine wpAnyH_ready (rs := [12]) (by kernel_rfl) (by simp) (AllReadyH.cons (o := ?oo12_13) ?hoo12_13 (fun K hK => ?steponly13) AllReadyH.nil); (case hoo12_13 => (simp only [List.getElem?_toArray, List.getElem?_cons_zero, List.getElem?_cons_succ]; rfl))
              refine step_row rfl 45 (.tmp 12) (.tmp 80) rfl U.heap.size q.cells.toArray rfl rfl _ z d2 jq hz5' oq ?_
              have hS4 : S (UB.setRow U.heap.size q.cells.toArray) := bSetRow hS3 (by omega) _
              have g1 : (UB.setRow U.heap.size q.cells.toArray).heap[w1.heap.size]? = some (.cells x.cells.toArray 45) := (setRow_other _ _ _ _ (by omega)).trans d1
              have g2 : (UB.setRow U.heap.size q.cells.toArray).heap[U.heap.size]? = some (.cells q.cells.toArray 45) := setRow_heap _ _ _ _ _ _ d2
              refine hK.out _ _ hS4 (fun _ => ?_)
              clear hK K
              (try simp only [Act.put, List.setIfInBounds_toArray, List.set_cons_zero, List.set_cons_succ])
              refine wpAnyH_done (by kernel_rfl) ?_ _
              have HE := Lib.hid (And.intro g1 (And.intro g2 (show Below w1.heap.size w1 _ from hS4)))
              clear hS0 hS1 hS2 hS3 hS4 rx rq b1 c1 c2 d1 d2 g1 g2 l1
              go_wp2_with fail
              go_meet
              exact ⟨_, _, rfl, rfl, HE.out.1, HE.out.2.1, HE.out.2.2⟩
            case step10 =>
              refine step_new rfl hzE rfl ?_
              have hS1 : S (w1.drew.alloc (.cells z 45)) := (Below.refl _ w1).drew.alloc (Nat.le_refl _) _
              have b1 : (w1.drew.alloc (.cells z 45)).heap[w1.heap.size]? = some (.cells z 45) := heap_alloc_new w1.drew _
              refine hK.out _ _ hS1 (fun _ => ?_)
              clear hK K
              (try simp only [Act.put, List.setIfInBounds_toArray, List.set_cons_zero, List.set_cons_succ])
              obtain ⟨U, hU⟩ : ∃ q, w1.drew.alloc (.cells z 45) = q := ⟨_, rfl⟩
              rw [hU] at hS1 b1 ⊢
              clear hU
              refine wpAnyH_ready (rs := [9]) (by kernel_rfl) (by simp) (AllReadyH.cons (o := ?oo9_14) ?hoo9_14 (fun K hK => ?steponly14) AllReadyH.nil); (case hoo9_14 => (simp only [List.getElem?_toArray, List.getElem?_cons_zero, List.getElem?_cons_succ]; rfl))
              refine step_new rfl hzE rfl ?_
              have hzU := (show Below w1.heap.size w1 U from hS1).size
              have hbA : Below U.heap.size U (U.alloc (.cells z 45)) := (Below.refl _ _).alloc (Nat.le_refl _) _
              have hS2 : S (U.alloc (.cells z 45)) := (show Below w1.heap.size w1 U from hS1).trans (hbA.mono hzU)
              have l1 := (Array.getElem?_eq_some_iff.1 b1).1
              have c1 := bBlk hbA l1 b1
              have c2 := heap_alloc_new U (.cells z 45)
              refine hK.out _ _ hS2 (fun _ => ?_)
              clear hK K
              (try simp only [Act.put, List.setIfInBounds_toArray, List.set_cons_zero, List.set_cons_succ])
              obtain ⟨UA, hUA⟩ : ∃ q, U.alloc (.cells z 45) = q := ⟨_, rfl⟩
              rw [hUA] at hS2 c1 c2 ⊢
              clear hUA hbA
              have hne : w1.heap.size ≠ U.heap.size := by omega
              refine wpAnyH_ready (rs := [11]) (by kernel_rfl) (by simp) (AllReadyH.cons (o := ?oo11_15) ?hoo11_15 (fun K hK => ?steponly15) AllReadyH.nil); (case hoo11_15 => (simp only [List.getElem?_toArray, List.getElem?_cons_zero, List.getElem?_cons_succ]; rfl))
              refine step_row rfl 45 (.tmp 11) (.tmp 76) rfl U.heap.size x.cells.toArray rfl rfl _ z c2 jx hz5 ox ?_
              have hS3 : S (UA.setRow U.heap.size x.cells.toArray) := bSetRow hS2 (by omega) _
              have d1 : (UA.setRow U.heap.size x.cells.toArray).heap[U.heap.size]? = some (.cells x.cells.toArray 45) := setRow_heap _ _ _ _ _ _ c2
              have d2 : (UA.setRow U.heap.size x.cells.toArray).heap[w1.heap.size]? = some (.cells z 45) := (setRow_other _ _ _ _ (by omega)).trans c1
              refine hK.out _ _ hS3 (fun _ => ?_)
              clear hK K
              (try simp only [Act.put, List.setIfInBounds_toArray, List.set_cons_zero, List.set_cons_succ])
              obtain ⟨UB, hUB⟩ : ∃ q, UA.setRow U.heap.size x.cells.toArray = q := ⟨_, rfl⟩
              rw [hUB] at hS3 d1 d2 ⊢
              clear hUB
              refine wpAnyH_ready (rs := [12]) (by kernel_rfl) (by simp) (AllReadyH.cons (o := ?oo12_16) ?hoo12_16 (fun K hK => ?steponly16) AllReadyH.nil); (case hoo12_16 => (simp only [List.getElem?_toArray, List.getElem?_cons_zero, List.getElem?_cons_succ]; rfl))
              refine step_row rfl 45 (.tmp 12) (.tmp 80) rfl w1.heap.size q.cells.toArray rfl rfl _ z d2 jq hz5' oq ?_
              have hS4 : S (UB.setRow w1.heap.size q.cells.toArray) := bSetRow hS3 (by omega) _
              have g1 : (UB.setRow w1.heap.size q.cells.toArray).heap[U.heap.size]? = some (.cells x.cells.toArray 45) := (setRow_other _ _ _ _ (by omega)).trans d1
              have g2 : (UB.setRow w1.heap.size q.cells.toArray).heap[w1.heap.size]? = some (.cells q.cells.toArray 45) := setRow_heap _ _ _ _ _ _ d2
              refine hK.out _ _ hS4 (fun _ => ?_)
              clear hK K
              (try simp only [Act.put, List.setIfInBounds_toArray, List.set_cons_zero, List.set_cons_succ])
              refine wpAnyH_done (by kernel_rfl) ?_ _
              have HE := Lib.hid (And.intro g1 (And.intro g2 (show Below w1.heap.size w1 _ from hS4)))
              clear hS0 hS1 hS2 hS3 hS4 rx rq b1 c1 c2 d1 d2 g1 g2 l1
              go_wp2_with fail
              go_meet
              exact ⟨_, _, rfl, rfl, HE.out.1, HE.out.2.1, HE.out.2.2⟩
          case rest =>
            obtain ⟨e1, e2, rfl, rfl, he1, he2, hbx⟩ := hcut
            rename World => wc
            obtain ⟨x0, x1, x2, -, -⟩ := ln_cells (range_blk he1)
            obtain ⟨q0, q1, q2, -, -⟩ := ln_cells (range_blk he2)
            rw [Nat.zero_add] at x1 x2 q1 q2
            have le1 := (Array.getElem?_eq_some_iff.1 he1).1
            have le2 := (Array.getElem?_eq_some_iff.1 he2).1
            have hwb := HBB.out
            have y8 : wc.heap[g8]? = some (.cells zp 30) := bBlk hbx (Array.getElem?_eq_some_iff.1 HY8.out).1 HY8.out
            have HB2 := Lib.hid (bNext HBB.out hbx)
            have y1 : IntKind.i64.wrap (L + 150) = L + 150 := wrap_small _ (by omega) (by omega)
            have y2 : IntKind.i64.wrap (L + 150 + 150) = L + 150 + 150 := wrap_small _ (by omega) (by omega)
            have y3 : IntKind.i64.wrap (L + 500) = L + 500 := wrap_small _ (by omega) (by omega)
            have y4 : IntKind.i64.wrap (L + 150 + 500) = L + 150 + 500 := wrap_small _ (by omega) (by omega)
            have y5 : IntKind.i64.wrap (L + 150 + 150 + 500) = L + 150 + 150 + 500 := wrap_small _ (by omega) (by omega)
            clear he1 he2 hbx hqr hxr c0 ix iq jx jq ox oq hz5 hz5' hzE hqo hxo hwb HBB HL
            have HBB := HB2
            clear HB2
            obtain ⟨f1, hf1⟩ : ∃ f, x.first = f := ⟨_, rfl⟩
            obtain ⟨f2, hf2⟩ : ∃ f, x.last = f := ⟨_, rfl⟩
            obtain ⟨f3, hf3⟩ : ∃ f, q.last = f := ⟨_, rfl⟩
            obtain ⟨f4, hf4⟩ : ∃ f, q.first = f := ⟨_, rfl⟩
            obtain ⟨K, hK⟩ : ∃ K, x.kind = K := ⟨_, rfl⟩
            have hR := HR.out
            rw [hf1, hf2, hf3, hf4, hK] at hR
            rw [hK] at x0
            rw [hf1] at x1
            rw [hf2] at x2
            rw [hf4] at q1
            rw [hf3] at q2
            have HP : Hid (prv (L + ptr (f1 && !f2) 150 + ptr (f3 && !f4) 150 + ptr (K == 2) 500) true = R) := Lib.hid (by rw [← hR]; unfold ptr; simp only [beq_eq_decide])
            clear hR HR hf1 hf2 hf3 hf4 hK
            have HZ := Lib.hid (And.intro y8 (And.intro HBB.out hg8))
            clear hob n1 n2 n3 n4 hi1 h1 h2 h3 hi2 hib hib' hbn hbn1 hbn2 hbn3 hbn4 hqe hqe4 v1 v2 v3 hdn hdn' hfew g0 hi0 y8 HBB hg8 y1 y2 y3 y4 y5
            go_upto_region 12 with (fail)
            go_cut [87] from 81 to 87 (fun s10 wx => s10 = .bool (f1 && !f2) ∧ wx = wc)
            case first =>
              cases f1 <;> cases f2
              all_goals
                go_wp2_with fail
                go_meet
                exact ⟨by simp, by trivial⟩
            case rest =>
            obtain ⟨rfl, hwx⟩ := hcut
            subst hwx
            rename World => wc
            go_upto_if 87 with (fail)
            generalize (f1 && !f2) = b12 at *
            go_cut [10] from 88 to 89 (fun s10 wx => s10 = .int .i64 (L + ptr b12 150) ∧ wx = wc)
            case first =>
              cases b12
              · go_wp2_with fail
                go_meet
                exact ⟨by simp [ptr], by trivial⟩
              · have g2 : IntKind.i64.wrap (L + 150) = L + 150 := wrap_small _ (by omega) (by omega)
                go_wp2_with fail
                go_meet
                exact ⟨by simp [ptr], by trivial⟩
            case rest =>
            obtain ⟨rfl, hwx⟩ := hcut
            subst hwx
            rename World => wc
            obtain ⟨L1, hnL1⟩ : ∃ q, L + ptr b12 150 = q := ⟨_, rfl⟩
            have hbL1 : 0 ≤ L1 ∧ L1 ≤ 10000000000150 := by rw [← hnL1]; unfold ptr; split <;> omega
            have hptR := HP.out
            rw [hnL1] at hptR ⊢
            replace HP := Lib.hid hptR
            clear hptR hnL1
            go_upto_region 14 with (fail)
            go_cut [96] from 90 to 96 (fun s10 wx => s10 = .bool (f3 && !f4) ∧ wx = wc)
            case first =>
              cases f3 <;> cases f4
              all_goals
                go_wp2_with fail
                go_meet
                exact ⟨by simp, by trivial⟩
            case rest =>
            obtain ⟨rfl, hwx⟩ := hcut
            subst hwx
            rename World => wc
            go_upto_if 96 with (fail)
            generalize (f3 && !f4) = b14 at *
            go_cut [10] from 97 to 98 (fun s10 wx => s10 = .int .i64 (L1 + ptr b14 150) ∧ wx = wc)
            case first =>
              cases b14
              · go_wp2_with fail
                go_meet
                exact ⟨by simp [ptr], by trivial⟩
              · have g2 : IntKind.i64.wrap (L1 + 150) = L1 + 150 := wrap_small _ (by omega) (by omega)
                go_wp2_with fail
                go_meet
                exact ⟨by simp [ptr], by trivial⟩
            case rest =>
            obtain ⟨rfl, hwx⟩ := hcut
            subst hwx
            rename World => wc
            obtain ⟨L2, hnL2⟩ : ∃ q, L1 + ptr b14 150 = q := ⟨_, rfl⟩
            have hbL2 : 0 ≤ L2 ∧ L2 ≤ 10000000000300 := by rw [← hnL2]; unfold ptr; split <;> omega
            have hptR := HP.out
            rw [hnL2] at hptR ⊢
            replace HP := Lib.hid hptR
            clear hptR hnL2
            go_upto_region 16 with (fail)
            go_cut [101] from 99 to 101 (fun s10 wx => s10 = .bool (K == 2) ∧ wx = wc)
            case first =>
              skip
              all_goals
                go_wp2_with fail
                go_meet
                exact ⟨by simp, by trivial⟩
            case rest =>
            obtain ⟨rfl, hwx⟩ := hcut
            subst hwx
            rename World => wc
            go_upto_if 101 with (fail)
            generalize (K == 2) = b16 at *
            go_cut [10] from 102 to 103 (fun s10 wx => s10 = .int .i64 (L2 + ptr b16 500) ∧ wx = wc)
            case first =>
              cases b16
              · go_wp2_with fail
                go_meet
                exact ⟨by simp [ptr], by trivial⟩
              · have g2 : IntKind.i64.wrap (L2 + 500) = L2 + 500 := wrap_small _ (by omega) (by omega)
                go_wp2_with fail
                go_meet
                exact ⟨by simp [ptr], by trivial⟩
            case rest =>
            obtain ⟨rfl, hwx⟩ := hcut
            subst hwx
            rename World => wc
            obtain ⟨L3, hnL3⟩ : ∃ q, L2 + ptr b16 500 = q := ⟨_, rfl⟩
            have hbL3 : 0 ≤ L3 ∧ L3 ≤ 10000000000800 := by rw [← hnL3]; unfold ptr; split <;> omega
            have hptR := HP.out
            rw [hnL3] at hptR ⊢
            replace HP := Lib.hid hptR
            clear hptR hnL3
            obtain ⟨y8, hBB, hg8⟩ := HZ.out
            have hld := (pr_end (n := L3) (ok := true) y8 hBB hg8).1
            have hBX := Lib.hid (pr_end (n := L3) (ok := true) y8 hBB hg8).2
            obtain ⟨cs, hcs⟩ : ∃ q : Array Value, #[.int .i64 L3, .bool true] = q := ⟨_, rfl⟩
            have hbu := built_pr L3
            have hbi := pr_info L3
            have hbz := pr_zs hz2 L3
            have hbo := pr_one L3
            unfold prv at HP
            rw [hcs] at hld hBX hbu hbi hbz hbo HP
            clear hcs hBB
            go_upto_region 18 with (fail)
            go_wp2_with (first
              | (refine wpList_built rfl 30 #[(0, .tmp 104), (1, .const (.bool true))] rfl (cs := cs) (by simp only [List.map_toArray, List.map_cons, List.map_nil]; exact hbu) ?_)
              | (refine wpList_store_row rfl 30 (.tmp 8) (.tmp 105) rfl _ cs rfl rfl _ zp y8 hbi hbz hbo ?_)
              | fail)
            refine bodyPost_ret (by simp [results, Try.results12, Act.put, asAddr, Result.andThen, hld]; try rfl) rfl ?_
            exact Ret.mk HP.out hBX.out
theorem rcost_any {A : Option Addr} {n c : Nat} {l : List LN} {a b h : Int} (w : World) (hl : LnAt w w.heap.size A n c l) (hone : ∀ x ∈ l, x.One) (hh : h ≤ 1000000) (hn : n ≤ 4611686018427387904) :
    Calls Try.prog 12 #[.slice A n c, .int .i64 a, .int .i64 b, .int .i64 h] w (Ret w (prv (costN l a b h) (pgOk l a b h))) := by
  have hln := hl.len
  by_cases hy : 0 ≤ a ∧ a < b ∧ b ≤ n ∧ b - a ≤ h
  · obtain ⟨a', rfl⟩ : ∃ a' : Nat, a = (a' : Int) := ⟨a.toNat, by omega⟩
    obtain ⟨b', rfl⟩ : ∃ b' : Nat, b = (b' : Int) := ⟨b.toNat, by omega⟩
    exact rcost_yes w hl hone hh hn (by omega) (by omega) (by omega)
  · obtain ⟨r1, r2⟩ := pg_no (l := l) (a := a) (b := b) (h := h) (by rw [hln]; exact hy)
    rw [r1, r2]
    exact rcost_no w hh hn (by omega)
end Go.Proofs.Ytdnpcplboohdpaa
