/-
  No cell of these rows narrows 'for every input' (looked for: loops, veiled, ifaces, maps, wideKeys, modest, calm, conditions, laid).
  DERIVED. THE GIVEN ROWS OF THIS SEAT. 5 by the template 'for every input the law returns true; each argument reads behind the call as it read before'; 0 by the template 'total and deterministic' (their statements: YtnojikbecohhfaaTotals.lean).
  GIVEN WITH THE SEED: the statements are not yours to turn. If you find one false, say at which input.
  Laid BY PROGRAM, IN A SANDBOX (cutbox-rows.mjs): the forced cells as the released guide's own fill.sh prints them over the translation e779b99c8494eeb6… (all of the seat's roots in one cut). By AI agents, Wed Nov 11 2026. No macro, syntax, notation, axiom, sorry.
-/
import Derived.Test.YtnojikbecohhfaaChecked
import GoSem.Claim
import GoSem.ClaimJoined
import GoSem.ClaimMapViews
import Derived.JoinedTies
import Derived.KernelRfl
namespace Go.Proofs.Ytnojikbecohhfaa
/- THE CELL 'sum', in the pinned program and in every row, IS THE sha256 OF THE DUMP (.gsa) THAT YtnojikbecohhfaaProg.lean LOADS. Nothing in Lean hashes anything: it is a label: what it is worth is what the hold of that sum in a sandbox is worth. -/
noncomputable def Try.pinned : Pinned := { name := "ytnojikbecohhfaa", sum := "e779b99c8494eeb679ba9d8d8e633b53680d5d07f29f379cbcbfff8a7ad87843", checked := Try.checked }
namespace Rows
def none {H : Type} : Left H := { results := [], args := [] }

/-- 'codexlaw17.BreaksTell': WHATEVER THE INPUT: true; the input reads as it did. -/
def breaksTellSpec : ChangeSpec := { name := "breaksTell", fn := fun _ => fun
  | [d1, d2, d3] => { results := [.lit (.bool true)], args := [d1, d2, d3] }
  | _ => none }
def breaksTellRow : OpenClaim := { program := "ytnojikbecohhfaa", sum := "e779b99c8494eeb679ba9d8d8e633b53680d5d07f29f379cbcbfff8a7ad87843", func := "codex/codexlaw17.BreaksTell", spec := "breaksTell", unfollowed := true, recurses := true, apart := false }
def BreaksTellSaid : Prop := breaksTellRow.holds Try.pinned (OpenSpec.ofChange breaksTellSpec)

/-- ITS FALSE NEIGHBOUR: 'it returns false'. Refute it at one input. -/
def breaksTellWrong : ChangeSpec := { name := "breaksTell", fn := fun _ => fun
  | [d1, d2, d3] => { results := [.lit (.bool false)], args := [d1, d2, d3] }
  | _ => none }
def BreaksTellWrongFalsely : Prop := breaksTellRow.holds Try.pinned (OpenSpec.ofChange breaksTellWrong)

/-- 'codexlaw17.BreaksLeast': WHATEVER THE INPUT: true; the input reads as it did. -/
def breaksLeastSpec : ChangeSpec := { name := "breaksLeast", fn := fun _ => fun
  | [d1, d2] => { results := [.lit (.bool true)], args := [d1, d2] }
  | _ => none }
def breaksLeastRow : OpenClaim := { program := "ytnojikbecohhfaa", sum := "e779b99c8494eeb679ba9d8d8e633b53680d5d07f29f379cbcbfff8a7ad87843", func := "codex/codexlaw17.BreaksLeast", spec := "breaksLeast", unfollowed := true, recurses := true, apart := false }
def BreaksLeastSaid : Prop := breaksLeastRow.holds Try.pinned (OpenSpec.ofChange breaksLeastSpec)

/-- ITS FALSE NEIGHBOUR: 'it returns false'. Refute it at one input. -/
def breaksLeastWrong : ChangeSpec := { name := "breaksLeast", fn := fun _ => fun
  | [d1, d2] => { results := [.lit (.bool false)], args := [d1, d2] }
  | _ => none }
def BreaksLeastWrongFalsely : Prop := breaksLeastRow.holds Try.pinned (OpenSpec.ofChange breaksLeastWrong)

/-- 'codexlaw17.BreaksLines': WHATEVER THE INPUT: true; the input reads as it did. -/
def breaksLinesSpec : ChangeSpec := { name := "breaksLines", fn := fun _ => fun
  | [d1, d2] => { results := [.lit (.bool true)], args := [d1, d2] }
  | _ => none }
def breaksLinesRow : OpenClaim := { program := "ytnojikbecohhfaa", sum := "e779b99c8494eeb679ba9d8d8e633b53680d5d07f29f379cbcbfff8a7ad87843", func := "codex/codexlaw17.BreaksLines", spec := "breaksLines", unfollowed := true, recurses := true, apart := false }
def BreaksLinesSaid : Prop := breaksLinesRow.holds Try.pinned (OpenSpec.ofChange breaksLinesSpec)

/-- ITS FALSE NEIGHBOUR: 'it returns false'. Refute it at one input. -/
def breaksLinesWrong : ChangeSpec := { name := "breaksLines", fn := fun _ => fun
  | [d1, d2] => { results := [.lit (.bool false)], args := [d1, d2] }
  | _ => none }
def BreaksLinesWrongFalsely : Prop := breaksLinesRow.holds Try.pinned (OpenSpec.ofChange breaksLinesWrong)

/-- 'codexlaw17.BreaksTolerate': WHATEVER THE INPUT: true; the input reads as it did. -/
def breaksTolerateSpec : ChangeSpec := { name := "breaksTolerate", fn := fun _ => fun
  | [d1, d2, d3] => { results := [.lit (.bool true)], args := [d1, d2, d3] }
  | _ => none }
def breaksTolerateRow : OpenClaim := { program := "ytnojikbecohhfaa", sum := "e779b99c8494eeb679ba9d8d8e633b53680d5d07f29f379cbcbfff8a7ad87843", func := "codex/codexlaw17.BreaksTolerate", spec := "breaksTolerate", unfollowed := true, recurses := true, apart := false }
def BreaksTolerateSaid : Prop := breaksTolerateRow.holds Try.pinned (OpenSpec.ofChange breaksTolerateSpec)

/-- ITS FALSE NEIGHBOUR: 'it returns false'. Refute it at one input. -/
def breaksTolerateWrong : ChangeSpec := { name := "breaksTolerate", fn := fun _ => fun
  | [d1, d2, d3] => { results := [.lit (.bool false)], args := [d1, d2, d3] }
  | _ => none }
def BreaksTolerateWrongFalsely : Prop := breaksTolerateRow.holds Try.pinned (OpenSpec.ofChange breaksTolerateWrong)

/-- 'codexlaw17.BreaksOver': WHATEVER THE INPUT: true; the input reads as it did. -/
def breaksOverSpec : ChangeSpec := { name := "breaksOver", fn := fun _ => fun
  | [d1, d2] => { results := [.lit (.bool true)], args := [d1, d2] }
  | _ => none }
def breaksOverRow : OpenClaim := { program := "ytnojikbecohhfaa", sum := "e779b99c8494eeb679ba9d8d8e633b53680d5d07f29f379cbcbfff8a7ad87843", func := "codex/codexlaw17.BreaksOver", spec := "breaksOver", unfollowed := true, recurses := true, apart := false }
def BreaksOverSaid : Prop := breaksOverRow.holds Try.pinned (OpenSpec.ofChange breaksOverSpec)

/-- ITS FALSE NEIGHBOUR: 'it returns false'. Refute it at one input. -/
def breaksOverWrong : ChangeSpec := { name := "breaksOver", fn := fun _ => fun
  | [d1, d2] => { results := [.lit (.bool false)], args := [d1, d2] }
  | _ => none }
def BreaksOverWrongFalsely : Prop := breaksOverRow.holds Try.pinned (OpenSpec.ofChange breaksOverWrong)

/- THE SECOND FORM. 'bulk': how many values and letters a reading holds, each counted each time it is reached (what is shared counts as often as it is met; a slice's spare places count too). A statement '..UptoSaid' is the law's where the arguments, and the package variables that the reading takes, are together of bulk at most 1048576: NARROWER than '..Said'. Prove '..Said' where nothing that the law and all that it calls make is longer than what came in: it says more and counts as full. Else prove '..UptoSaid'. A law counts once. -/
mutual
def uptoBulk {H : Type} : DataW H → Nat
  | .lit (.string bytes) => bytes.length + 1
  | .lit _ => 1
  | .nil => 1
  | .ptr d => uptoBulk d + 1
  | .slice elems spare => uptoBulkAll elems + uptoBulkAll spare + 1
  | .agg parts => uptoBulkAll parts + 1
  | .iface _ d => uptoBulk d + 1
  | .map entries => uptoBulkEntries entries + 1
  | .held _ => 1
def uptoBulkAll {H : Type} : List (DataW H) → Nat
  | [] => 0
  | d :: r => uptoBulk d + uptoBulkAll r
def uptoBulkEntries {H : Type} : List (Lit × DataW H) → Nat
  | [] => 0
  | x :: r => uptoBulkEntry x + uptoBulkEntries r
def uptoBulkEntry {H : Type} : Lit × DataW H → Nat
  | (.string bytes, d) => bytes.length + uptoBulk d + 1
  | (_, d) => uptoBulk d + 1
 end
def uptoSmall : (H : Type) → List (DataW H) → Bool := fun _ ds => decide (uptoBulkAll ds ≤ 1048576)
def OpenSpec.upto (s : _root_.Go.ChangeSpec) : _root_.Go.OpenSpec := { _root_.Go.OpenSpec.ofChange s with cond := some uptoSmall }

/-- 'codexlaw17.BreaksTell', WHERE WHAT IT READS IS OF BULK AT MOST 1048576: true; the input reads as it did. -/
def breaksTellUptoRow : OpenClaim := { program := "ytnojikbecohhfaa", sum := "e779b99c8494eeb679ba9d8d8e633b53680d5d07f29f379cbcbfff8a7ad87843", func := "codex/codexlaw17.BreaksTell", spec := "breaksTell", unfollowed := true, recurses := true, apart := false, narrowed := true }
def BreaksTellUptoSaid : Prop := breaksTellUptoRow.holds Try.pinned (OpenSpec.upto breaksTellSpec)

/-- 'codexlaw17.BreaksLeast', WHERE WHAT IT READS IS OF BULK AT MOST 1048576: true; the input reads as it did. -/
def breaksLeastUptoRow : OpenClaim := { program := "ytnojikbecohhfaa", sum := "e779b99c8494eeb679ba9d8d8e633b53680d5d07f29f379cbcbfff8a7ad87843", func := "codex/codexlaw17.BreaksLeast", spec := "breaksLeast", unfollowed := true, recurses := true, apart := false, narrowed := true }
def BreaksLeastUptoSaid : Prop := breaksLeastUptoRow.holds Try.pinned (OpenSpec.upto breaksLeastSpec)

/-- 'codexlaw17.BreaksLines', WHERE WHAT IT READS IS OF BULK AT MOST 1048576: true; the input reads as it did. -/
def breaksLinesUptoRow : OpenClaim := { program := "ytnojikbecohhfaa", sum := "e779b99c8494eeb679ba9d8d8e633b53680d5d07f29f379cbcbfff8a7ad87843", func := "codex/codexlaw17.BreaksLines", spec := "breaksLines", unfollowed := true, recurses := true, apart := false, narrowed := true }
def BreaksLinesUptoSaid : Prop := breaksLinesUptoRow.holds Try.pinned (OpenSpec.upto breaksLinesSpec)

/-- 'codexlaw17.BreaksTolerate', WHERE WHAT IT READS IS OF BULK AT MOST 1048576: true; the input reads as it did. -/
def breaksTolerateUptoRow : OpenClaim := { program := "ytnojikbecohhfaa", sum := "e779b99c8494eeb679ba9d8d8e633b53680d5d07f29f379cbcbfff8a7ad87843", func := "codex/codexlaw17.BreaksTolerate", spec := "breaksTolerate", unfollowed := true, recurses := true, apart := false, narrowed := true }
def BreaksTolerateUptoSaid : Prop := breaksTolerateUptoRow.holds Try.pinned (OpenSpec.upto breaksTolerateSpec)

/-- 'codexlaw17.BreaksOver', WHERE WHAT IT READS IS OF BULK AT MOST 1048576: true; the input reads as it did. -/
def breaksOverUptoRow : OpenClaim := { program := "ytnojikbecohhfaa", sum := "e779b99c8494eeb679ba9d8d8e633b53680d5d07f29f379cbcbfff8a7ad87843", func := "codex/codexlaw17.BreaksOver", spec := "breaksOver", unfollowed := true, recurses := true, apart := false, narrowed := true }
def BreaksOverUptoSaid : Prop := breaksOverUptoRow.holds Try.pinned (OpenSpec.upto breaksOverSpec)

end Rows
end Go.Proofs.Ytnojikbecohhfaa
