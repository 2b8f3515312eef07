/-
  No cell of these rows narrows 'for every input' (looked for: loops, veiled, ifaces, maps, wideKeys, modest, calm, conditions, laid).
  DERIVED. THE GIVEN ROWS OF THIS SEAT. 12 by the template 'for every input the law returns true; each argument reads behind the call as it read before'; 0 by the template 'total and deterministic' (their statements: YtaifbbmobhfjcaaTotals.lean).
  GIVEN WITH THE SEED: the statements are not yours to turn. If you find one false, say at which input.
  Laid BY PROGRAM, IN A SANDBOX (cutbox-rows.mjs): the forced cells as the released guide's own fill.sh prints them over the translation d60851c88fc8c3f4… (all of the seat's roots in one cut). By AI agents, Wed Nov 11 2026. No macro, syntax, notation, axiom, sorry.
-/
import Derived.Test.YtaifbbmobhfjcaaChecked
import GoSem.Claim
import GoSem.ClaimJoined
import GoSem.ClaimMapViews
import Derived.JoinedTies
import Derived.KernelRfl
namespace Go.Proofs.Ytaifbbmobhfjcaa
/- THE CELL 'sum', in the pinned program and in every row, IS THE sha256 OF THE DUMP (.gsa) THAT YtaifbbmobhfjcaaProg.lean LOADS. Nothing in Lean hashes anything: it is a label: what it is worth is what the hold of that sum in a sandbox is worth. -/
noncomputable def Try.pinned : Pinned := { name := "ytaifbbmobhfjcaa", sum := "d60851c88fc8c3f4f7547a8c9cf1c2287558d37923e1825ed8b644071edd7958", checked := Try.checked }
namespace Rows
def none {H : Type} : Left H := { results := [], args := [] }

/-- 'codexlaw15.BadnessTells': WHATEVER THE INPUT: true; the input reads as it did. -/
def badnessTellsSpec : ChangeSpec := { name := "badnessTells", fn := fun _ => fun
  | [d1, d2, d3] => { results := [.lit (.bool true)], args := [d1, d2, d3] }
  | _ => none }
def badnessTellsRow : OpenClaim := { program := "ytaifbbmobhfjcaa", sum := "d60851c88fc8c3f4f7547a8c9cf1c2287558d37923e1825ed8b644071edd7958", func := "codex/codexlaw15.BadnessTells", spec := "badnessTells", apart := false }
def BadnessTellsSaid : Prop := badnessTellsRow.holds Try.pinned (OpenSpec.ofChange badnessTellsSpec)

/-- ITS FALSE NEIGHBOUR: 'it returns false'. Refute it at one input. -/
def badnessTellsWrong : ChangeSpec := { name := "badnessTells", fn := fun _ => fun
  | [d1, d2, d3] => { results := [.lit (.bool false)], args := [d1, d2, d3] }
  | _ => none }
def BadnessTellsWrongFalsely : Prop := badnessTellsRow.holds Try.pinned (OpenSpec.ofChange badnessTellsWrong)

/-- 'codexlaw15.BadnessGrows': WHATEVER THE INPUT: true; the input reads as it did. -/
def badnessGrowsSpec : ChangeSpec := { name := "badnessGrows", fn := fun _ => fun
  | [d1, d2, d3] => { results := [.lit (.bool true)], args := [d1, d2, d3] }
  | _ => none }
def badnessGrowsRow : OpenClaim := { program := "ytaifbbmobhfjcaa", sum := "d60851c88fc8c3f4f7547a8c9cf1c2287558d37923e1825ed8b644071edd7958", func := "codex/codexlaw15.BadnessGrows", spec := "badnessGrows", apart := false }
def BadnessGrowsSaid : Prop := badnessGrowsRow.holds Try.pinned (OpenSpec.ofChange badnessGrowsSpec)

/-- ITS FALSE NEIGHBOUR: 'it returns false'. Refute it at one input. -/
def badnessGrowsWrong : ChangeSpec := { name := "badnessGrows", fn := fun _ => fun
  | [d1, d2, d3] => { results := [.lit (.bool false)], args := [d1, d2, d3] }
  | _ => none }
def BadnessGrowsWrongFalsely : Prop := badnessGrowsRow.holds Try.pinned (OpenSpec.ofChange badnessGrowsWrong)

/-- 'codexlaw15.BadnessScales': WHATEVER THE INPUT: true; the input reads as it did. -/
def badnessScalesSpec : ChangeSpec := { name := "badnessScales", fn := fun _ => fun
  | [d1, d2, d3] => { results := [.lit (.bool true)], args := [d1, d2, d3] }
  | _ => none }
def badnessScalesRow : OpenClaim := { program := "ytaifbbmobhfjcaa", sum := "d60851c88fc8c3f4f7547a8c9cf1c2287558d37923e1825ed8b644071edd7958", func := "codex/codexlaw15.BadnessScales", spec := "badnessScales", apart := false }
def BadnessScalesSaid : Prop := badnessScalesRow.holds Try.pinned (OpenSpec.ofChange badnessScalesSpec)

/-- ITS FALSE NEIGHBOUR: 'it returns false'. Refute it at one input. -/
def badnessScalesWrong : ChangeSpec := { name := "badnessScales", fn := fun _ => fun
  | [d1, d2, d3] => { results := [.lit (.bool false)], args := [d1, d2, d3] }
  | _ => none }
def BadnessScalesWrongFalsely : Prop := badnessScalesRow.holds Try.pinned (OpenSpec.ofChange badnessScalesWrong)

/-- 'codexlaw16.MeasureTells': WHATEVER THE INPUT: true; the input reads as it did. -/
def measureTellsSpec : ChangeSpec := { name := "measureTells", fn := fun _ => fun
  | [d1, d2, d3] => { results := [.lit (.bool true)], args := [d1, d2, d3] }
  | _ => none }
def measureTellsRow : OpenClaim := { program := "ytaifbbmobhfjcaa", sum := "d60851c88fc8c3f4f7547a8c9cf1c2287558d37923e1825ed8b644071edd7958", func := "codex/codexlaw16.MeasureTells", spec := "measureTells", unfollowed := true, recurses := true, apart := false }
def MeasureTellsSaid : Prop := measureTellsRow.holds Try.pinned (OpenSpec.ofChange measureTellsSpec)

/-- ITS FALSE NEIGHBOUR: 'it returns false'. Refute it at one input. -/
def measureTellsWrong : ChangeSpec := { name := "measureTells", fn := fun _ => fun
  | [d1, d2, d3] => { results := [.lit (.bool false)], args := [d1, d2, d3] }
  | _ => none }
def MeasureTellsWrongFalsely : Prop := measureTellsRow.holds Try.pinned (OpenSpec.ofChange measureTellsWrong)

/-- 'codexlaw16.MeasureGrows': WHATEVER THE INPUT: true; the input reads as it did. -/
def measureGrowsSpec : ChangeSpec := { name := "measureGrows", fn := fun _ => fun
  | [d1, d2] => { results := [.lit (.bool true)], args := [d1, d2] }
  | _ => none }
def measureGrowsRow : OpenClaim := { program := "ytaifbbmobhfjcaa", sum := "d60851c88fc8c3f4f7547a8c9cf1c2287558d37923e1825ed8b644071edd7958", func := "codex/codexlaw16.MeasureGrows", spec := "measureGrows", unfollowed := true, recurses := true, apart := false }
def MeasureGrowsSaid : Prop := measureGrowsRow.holds Try.pinned (OpenSpec.ofChange measureGrowsSpec)

/-- ITS FALSE NEIGHBOUR: 'it returns false'. Refute it at one input. -/
def measureGrowsWrong : ChangeSpec := { name := "measureGrows", fn := fun _ => fun
  | [d1, d2] => { results := [.lit (.bool false)], args := [d1, d2] }
  | _ => none }
def MeasureGrowsWrongFalsely : Prop := measureGrowsRow.holds Try.pinned (OpenSpec.ofChange measureGrowsWrong)

/-- 'codexlaw16.MeasureBreaks': WHATEVER THE INPUT: true; the input reads as it did. -/
def measureBreaksSpec : ChangeSpec := { name := "measureBreaks", fn := fun _ => fun
  | [d] => { results := [.lit (.bool true)], args := [d] }
  | _ => none }
def measureBreaksRow : OpenClaim := { program := "ytaifbbmobhfjcaa", sum := "d60851c88fc8c3f4f7547a8c9cf1c2287558d37923e1825ed8b644071edd7958", func := "codex/codexlaw16.MeasureBreaks", spec := "measureBreaks", unfollowed := true, recurses := true, apart := false }
def MeasureBreaksSaid : Prop := measureBreaksRow.holds Try.pinned (OpenSpec.ofChange measureBreaksSpec)

/-- ITS FALSE NEIGHBOUR: 'it returns false'. Refute it at one input. -/
def measureBreaksWrong : ChangeSpec := { name := "measureBreaks", fn := fun _ => fun
  | [d] => { results := [.lit (.bool false)], args := [d] }
  | _ => none }
def MeasureBreaksWrongFalsely : Prop := measureBreaksRow.holds Try.pinned (OpenSpec.ofChange measureBreaksWrong)

/-- 'codexlaw16.MeasureAdds': WHATEVER THE INPUT: true; the input reads as it did. -/
def measureAddsSpec : ChangeSpec := { name := "measureAdds", fn := fun _ => fun
  | [d1, d2] => { results := [.lit (.bool true)], args := [d1, d2] }
  | _ => none }
def measureAddsRow : OpenClaim := { program := "ytaifbbmobhfjcaa", sum := "d60851c88fc8c3f4f7547a8c9cf1c2287558d37923e1825ed8b644071edd7958", func := "codex/codexlaw16.MeasureAdds", spec := "measureAdds", unfollowed := true, recurses := true, apart := false }
def MeasureAddsSaid : Prop := measureAddsRow.holds Try.pinned (OpenSpec.ofChange measureAddsSpec)

/-- ITS FALSE NEIGHBOUR: 'it returns false'. Refute it at one input. -/
def measureAddsWrong : ChangeSpec := { name := "measureAdds", fn := fun _ => fun
  | [d1, d2] => { results := [.lit (.bool false)], args := [d1, d2] }
  | _ => none }
def MeasureAddsWrongFalsely : Prop := measureAddsRow.holds Try.pinned (OpenSpec.ofChange measureAddsWrong)

/-- 'codexlaw17.BreaksTell': WHATEVER THE INPUT: true; the input reads as it did. -/
def breaksTellSpec : ChangeSpec := { name := "breaksTell", fn := fun _ => fun
  | [d1, d2, d3] => { results := [.lit (.bool true)], args := [d1, d2, d3] }
  | _ => none }
def breaksTellRow : OpenClaim := { program := "ytaifbbmobhfjcaa", sum := "d60851c88fc8c3f4f7547a8c9cf1c2287558d37923e1825ed8b644071edd7958", func := "codex/codexlaw17.BreaksTell", spec := "breaksTell", unfollowed := true, recurses := true, apart := false }
def BreaksTellSaid : Prop := breaksTellRow.holds Try.pinned (OpenSpec.ofChange breaksTellSpec)

/-- ITS FALSE NEIGHBOUR: 'it returns false'. Refute it at one input. -/
def breaksTellWrong : ChangeSpec := { name := "breaksTell", fn := fun _ => fun
  | [d1, d2, d3] => { results := [.lit (.bool false)], args := [d1, d2, d3] }
  | _ => none }
def BreaksTellWrongFalsely : Prop := breaksTellRow.holds Try.pinned (OpenSpec.ofChange breaksTellWrong)

/-- 'codexlaw17.BreaksLeast': WHATEVER THE INPUT: true; the input reads as it did. -/
def breaksLeastSpec : ChangeSpec := { name := "breaksLeast", fn := fun _ => fun
  | [d1, d2] => { results := [.lit (.bool true)], args := [d1, d2] }
  | _ => none }
def breaksLeastRow : OpenClaim := { program := "ytaifbbmobhfjcaa", sum := "d60851c88fc8c3f4f7547a8c9cf1c2287558d37923e1825ed8b644071edd7958", func := "codex/codexlaw17.BreaksLeast", spec := "breaksLeast", unfollowed := true, recurses := true, apart := false }
def BreaksLeastSaid : Prop := breaksLeastRow.holds Try.pinned (OpenSpec.ofChange breaksLeastSpec)

/-- ITS FALSE NEIGHBOUR: 'it returns false'. Refute it at one input. -/
def breaksLeastWrong : ChangeSpec := { name := "breaksLeast", fn := fun _ => fun
  | [d1, d2] => { results := [.lit (.bool false)], args := [d1, d2] }
  | _ => none }
def BreaksLeastWrongFalsely : Prop := breaksLeastRow.holds Try.pinned (OpenSpec.ofChange breaksLeastWrong)

/-- 'codexlaw17.BreaksLines': WHATEVER THE INPUT: true; the input reads as it did. -/
def breaksLinesSpec : ChangeSpec := { name := "breaksLines", fn := fun _ => fun
  | [d1, d2] => { results := [.lit (.bool true)], args := [d1, d2] }
  | _ => none }
def breaksLinesRow : OpenClaim := { program := "ytaifbbmobhfjcaa", sum := "d60851c88fc8c3f4f7547a8c9cf1c2287558d37923e1825ed8b644071edd7958", func := "codex/codexlaw17.BreaksLines", spec := "breaksLines", unfollowed := true, recurses := true, apart := false }
def BreaksLinesSaid : Prop := breaksLinesRow.holds Try.pinned (OpenSpec.ofChange breaksLinesSpec)

/-- ITS FALSE NEIGHBOUR: 'it returns false'. Refute it at one input. -/
def breaksLinesWrong : ChangeSpec := { name := "breaksLines", fn := fun _ => fun
  | [d1, d2] => { results := [.lit (.bool false)], args := [d1, d2] }
  | _ => none }
def BreaksLinesWrongFalsely : Prop := breaksLinesRow.holds Try.pinned (OpenSpec.ofChange breaksLinesWrong)

/-- 'codexlaw17.BreaksTolerate': WHATEVER THE INPUT: true; the input reads as it did. -/
def breaksTolerateSpec : ChangeSpec := { name := "breaksTolerate", fn := fun _ => fun
  | [d1, d2, d3] => { results := [.lit (.bool true)], args := [d1, d2, d3] }
  | _ => none }
def breaksTolerateRow : OpenClaim := { program := "ytaifbbmobhfjcaa", sum := "d60851c88fc8c3f4f7547a8c9cf1c2287558d37923e1825ed8b644071edd7958", func := "codex/codexlaw17.BreaksTolerate", spec := "breaksTolerate", unfollowed := true, recurses := true, apart := false }
def BreaksTolerateSaid : Prop := breaksTolerateRow.holds Try.pinned (OpenSpec.ofChange breaksTolerateSpec)

/-- ITS FALSE NEIGHBOUR: 'it returns false'. Refute it at one input. -/
def breaksTolerateWrong : ChangeSpec := { name := "breaksTolerate", fn := fun _ => fun
  | [d1, d2, d3] => { results := [.lit (.bool false)], args := [d1, d2, d3] }
  | _ => none }
def BreaksTolerateWrongFalsely : Prop := breaksTolerateRow.holds Try.pinned (OpenSpec.ofChange breaksTolerateWrong)

/-- 'codexlaw17.BreaksOver': WHATEVER THE INPUT: true; the input reads as it did. -/
def breaksOverSpec : ChangeSpec := { name := "breaksOver", fn := fun _ => fun
  | [d1, d2] => { results := [.lit (.bool true)], args := [d1, d2] }
  | _ => none }
def breaksOverRow : OpenClaim := { program := "ytaifbbmobhfjcaa", sum := "d60851c88fc8c3f4f7547a8c9cf1c2287558d37923e1825ed8b644071edd7958", func := "codex/codexlaw17.BreaksOver", spec := "breaksOver", unfollowed := true, recurses := true, apart := false }
def BreaksOverSaid : Prop := breaksOverRow.holds Try.pinned (OpenSpec.ofChange breaksOverSpec)

/-- ITS FALSE NEIGHBOUR: 'it returns false'. Refute it at one input. -/
def breaksOverWrong : ChangeSpec := { name := "breaksOver", fn := fun _ => fun
  | [d1, d2] => { results := [.lit (.bool false)], args := [d1, d2] }
  | _ => none }
def BreaksOverWrongFalsely : Prop := breaksOverRow.holds Try.pinned (OpenSpec.ofChange breaksOverWrong)

/- THE SECOND FORM. 'bulk': how many values and letters a reading holds, each counted each time it is reached (what is shared counts as often as it is met; a slice's spare places count too). A statement '..UptoSaid' is the law's where the arguments, and the package variables that the reading takes, are together of bulk at most 1048576: NARROWER than '..Said'. Prove '..Said' where nothing that the law and all that it calls make is longer than what came in: it says more and counts as full. Else prove '..UptoSaid'. A law counts once. -/
mutual
def uptoBulk {H : Type} : DataW H → Nat
  | .lit (.string bytes) => bytes.length + 1
  | .lit _ => 1
  | .nil => 1
  | .ptr d => uptoBulk d + 1
  | .slice elems spare => uptoBulkAll elems + uptoBulkAll spare + 1
  | .agg parts => uptoBulkAll parts + 1
  | .iface _ d => uptoBulk d + 1
  | .map entries => uptoBulkEntries entries + 1
  | .held _ => 1
def uptoBulkAll {H : Type} : List (DataW H) → Nat
  | [] => 0
  | d :: r => uptoBulk d + uptoBulkAll r
def uptoBulkEntries {H : Type} : List (Lit × DataW H) → Nat
  | [] => 0
  | x :: r => uptoBulkEntry x + uptoBulkEntries r
def uptoBulkEntry {H : Type} : Lit × DataW H → Nat
  | (.string bytes, d) => bytes.length + uptoBulk d + 1
  | (_, d) => uptoBulk d + 1
 end
def uptoSmall : (H : Type) → List (DataW H) → Bool := fun _ ds => decide (uptoBulkAll ds ≤ 1048576)
def OpenSpec.upto (s : _root_.Go.ChangeSpec) : _root_.Go.OpenSpec := { _root_.Go.OpenSpec.ofChange s with cond := some uptoSmall }

/-- 'codexlaw15.BadnessTells', WHERE WHAT IT READS IS OF BULK AT MOST 1048576: true; the input reads as it did. -/
def badnessTellsUptoRow : OpenClaim := { program := "ytaifbbmobhfjcaa", sum := "d60851c88fc8c3f4f7547a8c9cf1c2287558d37923e1825ed8b644071edd7958", func := "codex/codexlaw15.BadnessTells", spec := "badnessTells", apart := false, narrowed := true }
def BadnessTellsUptoSaid : Prop := badnessTellsUptoRow.holds Try.pinned (OpenSpec.upto badnessTellsSpec)

/-- 'codexlaw15.BadnessGrows', WHERE WHAT IT READS IS OF BULK AT MOST 1048576: true; the input reads as it did. -/
def badnessGrowsUptoRow : OpenClaim := { program := "ytaifbbmobhfjcaa", sum := "d60851c88fc8c3f4f7547a8c9cf1c2287558d37923e1825ed8b644071edd7958", func := "codex/codexlaw15.BadnessGrows", spec := "badnessGrows", apart := false, narrowed := true }
def BadnessGrowsUptoSaid : Prop := badnessGrowsUptoRow.holds Try.pinned (OpenSpec.upto badnessGrowsSpec)

/-- 'codexlaw15.BadnessScales', WHERE WHAT IT READS IS OF BULK AT MOST 1048576: true; the input reads as it did. -/
def badnessScalesUptoRow : OpenClaim := { program := "ytaifbbmobhfjcaa", sum := "d60851c88fc8c3f4f7547a8c9cf1c2287558d37923e1825ed8b644071edd7958", func := "codex/codexlaw15.BadnessScales", spec := "badnessScales", apart := false, narrowed := true }
def BadnessScalesUptoSaid : Prop := badnessScalesUptoRow.holds Try.pinned (OpenSpec.upto badnessScalesSpec)

/-- 'codexlaw16.MeasureTells', WHERE WHAT IT READS IS OF BULK AT MOST 1048576: true; the input reads as it did. -/
def measureTellsUptoRow : OpenClaim := { program := "ytaifbbmobhfjcaa", sum := "d60851c88fc8c3f4f7547a8c9cf1c2287558d37923e1825ed8b644071edd7958", func := "codex/codexlaw16.MeasureTells", spec := "measureTells", unfollowed := true, recurses := true, apart := false, narrowed := true }
def MeasureTellsUptoSaid : Prop := measureTellsUptoRow.holds Try.pinned (OpenSpec.upto measureTellsSpec)

/-- 'codexlaw16.MeasureGrows', WHERE WHAT IT READS IS OF BULK AT MOST 1048576: true; the input reads as it did. -/
def measureGrowsUptoRow : OpenClaim := { program := "ytaifbbmobhfjcaa", sum := "d60851c88fc8c3f4f7547a8c9cf1c2287558d37923e1825ed8b644071edd7958", func := "codex/codexlaw16.MeasureGrows", spec := "measureGrows", unfollowed := true, recurses := true, apart := false, narrowed := true }
def MeasureGrowsUptoSaid : Prop := measureGrowsUptoRow.holds Try.pinned (OpenSpec.upto measureGrowsSpec)

/-- 'codexlaw16.MeasureBreaks', WHERE WHAT IT READS IS OF BULK AT MOST 1048576: true; the input reads as it did. -/
def measureBreaksUptoRow : OpenClaim := { program := "ytaifbbmobhfjcaa", sum := "d60851c88fc8c3f4f7547a8c9cf1c2287558d37923e1825ed8b644071edd7958", func := "codex/codexlaw16.MeasureBreaks", spec := "measureBreaks", unfollowed := true, recurses := true, apart := false, narrowed := true }
def MeasureBreaksUptoSaid : Prop := measureBreaksUptoRow.holds Try.pinned (OpenSpec.upto measureBreaksSpec)

/-- 'codexlaw16.MeasureAdds', WHERE WHAT IT READS IS OF BULK AT MOST 1048576: true; the input reads as it did. -/
def measureAddsUptoRow : OpenClaim := { program := "ytaifbbmobhfjcaa", sum := "d60851c88fc8c3f4f7547a8c9cf1c2287558d37923e1825ed8b644071edd7958", func := "codex/codexlaw16.MeasureAdds", spec := "measureAdds", unfollowed := true, recurses := true, apart := false, narrowed := true }
def MeasureAddsUptoSaid : Prop := measureAddsUptoRow.holds Try.pinned (OpenSpec.upto measureAddsSpec)

/-- 'codexlaw17.BreaksTell', WHERE WHAT IT READS IS OF BULK AT MOST 1048576: true; the input reads as it did. -/
def breaksTellUptoRow : OpenClaim := { program := "ytaifbbmobhfjcaa", sum := "d60851c88fc8c3f4f7547a8c9cf1c2287558d37923e1825ed8b644071edd7958", func := "codex/codexlaw17.BreaksTell", spec := "breaksTell", unfollowed := true, recurses := true, apart := false, narrowed := true }
def BreaksTellUptoSaid : Prop := breaksTellUptoRow.holds Try.pinned (OpenSpec.upto breaksTellSpec)

/-- 'codexlaw17.BreaksLeast', WHERE WHAT IT READS IS OF BULK AT MOST 1048576: true; the input reads as it did. -/
def breaksLeastUptoRow : OpenClaim := { program := "ytaifbbmobhfjcaa", sum := "d60851c88fc8c3f4f7547a8c9cf1c2287558d37923e1825ed8b644071edd7958", func := "codex/codexlaw17.BreaksLeast", spec := "breaksLeast", unfollowed := true, recurses := true, apart := false, narrowed := true }
def BreaksLeastUptoSaid : Prop := breaksLeastUptoRow.holds Try.pinned (OpenSpec.upto breaksLeastSpec)

/-- 'codexlaw17.BreaksLines', WHERE WHAT IT READS IS OF BULK AT MOST 1048576: true; the input reads as it did. -/
def breaksLinesUptoRow : OpenClaim := { program := "ytaifbbmobhfjcaa", sum := "d60851c88fc8c3f4f7547a8c9cf1c2287558d37923e1825ed8b644071edd7958", func := "codex/codexlaw17.BreaksLines", spec := "breaksLines", unfollowed := true, recurses := true, apart := false, narrowed := true }
def BreaksLinesUptoSaid : Prop := breaksLinesUptoRow.holds Try.pinned (OpenSpec.upto breaksLinesSpec)

/-- 'codexlaw17.BreaksTolerate', WHERE WHAT IT READS IS OF BULK AT MOST 1048576: true; the input reads as it did. -/
def breaksTolerateUptoRow : OpenClaim := { program := "ytaifbbmobhfjcaa", sum := "d60851c88fc8c3f4f7547a8c9cf1c2287558d37923e1825ed8b644071edd7958", func := "codex/codexlaw17.BreaksTolerate", spec := "breaksTolerate", unfollowed := true, recurses := true, apart := false, narrowed := true }
def BreaksTolerateUptoSaid : Prop := breaksTolerateUptoRow.holds Try.pinned (OpenSpec.upto breaksTolerateSpec)

/-- 'codexlaw17.BreaksOver', WHERE WHAT IT READS IS OF BULK AT MOST 1048576: true; the input reads as it did. -/
def breaksOverUptoRow : OpenClaim := { program := "ytaifbbmobhfjcaa", sum := "d60851c88fc8c3f4f7547a8c9cf1c2287558d37923e1825ed8b644071edd7958", func := "codex/codexlaw17.BreaksOver", spec := "breaksOver", unfollowed := true, recurses := true, apart := false, narrowed := true }
def BreaksOverUptoSaid : Prop := breaksOverUptoRow.holds Try.pinned (OpenSpec.upto breaksOverSpec)

end Rows
end Go.Proofs.Ytaifbbmobhfjcaa
