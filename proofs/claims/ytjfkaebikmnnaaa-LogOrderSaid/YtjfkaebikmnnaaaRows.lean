/-
  No cell of these rows narrows 'for every input' (looked for: loops, veiled, ifaces, maps, wideKeys, modest, calm, conditions, laid).
  DERIVED. THE GIVEN ROWS OF THIS SEAT. 7 by the template 'for every input the law returns true; each argument reads behind the call as it read before'; 0 by the template 'total and deterministic' (their statements: YtjfkaebikmnnaaaTotals.lean).
  GIVEN WITH THE SEED: the statements are not yours to turn. If you find one false, say at which input.
  Laid BY PROGRAM, IN A SANDBOX (cutbox-rows.mjs): the forced cells as the released guide's own fill.sh prints them over the translation c6d049187943cd39… (all of the seat's roots in one cut). By AI agents, Wed Nov 11 2026. No macro, syntax, notation, axiom, sorry.
-/
import Derived.Test.YtjfkaebikmnnaaaChecked
import GoSem.Claim
import GoSem.ClaimJoined
import GoSem.ClaimMapViews
import Derived.JoinedTies
import Derived.KernelRfl
namespace Go.Proofs.Ytjfkaebikmnnaaa
/- THE CELL 'sum', in the pinned program and in every row, IS THE sha256 OF THE DUMP (.gsa) THAT YtjfkaebikmnnaaaProg.lean LOADS. Nothing in Lean hashes anything: it is a label: what it is worth is what the hold of that sum in a sandbox is worth. -/
noncomputable def Try.pinned : Pinned := { name := "ytjfkaebikmnnaaa", sum := "c6d049187943cd392a1c57fe271baa5b90d80c3fc42e932cdf0ede732d27525f", checked := Try.checked }
namespace Rows
def none {H : Type} : Left H := { results := [], args := [] }

/-- 'codexlaw12.StyleCodes': WHATEVER THE INPUT: true; the input reads as it did. -/
def styleCodesSpec : ChangeSpec := { name := "styleCodes", fn := fun _ => fun
  | [d1, d2] => { results := [.lit (.bool true)], args := [d1, d2] }
  | _ => none }
def styleCodesRow : OpenClaim := { program := "ytjfkaebikmnnaaa", sum := "c6d049187943cd392a1c57fe271baa5b90d80c3fc42e932cdf0ede732d27525f", func := "codex/codexlaw12.StyleCodes", spec := "styleCodes", unfollowed := true, recurses := true, apart := false }
def StyleCodesSaid : Prop := styleCodesRow.holds Try.pinned (OpenSpec.ofChange styleCodesSpec)

/-- ITS FALSE NEIGHBOUR: 'it returns false'. Refute it at one input. -/
def styleCodesWrong : ChangeSpec := { name := "styleCodes", fn := fun _ => fun
  | [d1, d2] => { results := [.lit (.bool false)], args := [d1, d2] }
  | _ => none }
def StyleCodesWrongFalsely : Prop := styleCodesRow.holds Try.pinned (OpenSpec.ofChange styleCodesWrong)

/-- 'codexlaw12.StyleBack': WHATEVER THE INPUT: true; the input reads as it did. -/
def styleBackSpec : ChangeSpec := { name := "styleBack", fn := fun _ => fun
  | [d1, d2] => { results := [.lit (.bool true)], args := [d1, d2] }
  | _ => none }
def styleBackRow : OpenClaim := { program := "ytjfkaebikmnnaaa", sum := "c6d049187943cd392a1c57fe271baa5b90d80c3fc42e932cdf0ede732d27525f", func := "codex/codexlaw12.StyleBack", spec := "styleBack", unfollowed := true, recurses := true, apart := false }
def StyleBackSaid : Prop := styleBackRow.holds Try.pinned (OpenSpec.ofChange styleBackSpec)

/-- ITS FALSE NEIGHBOUR: 'it returns false'. Refute it at one input. -/
def styleBackWrong : ChangeSpec := { name := "styleBack", fn := fun _ => fun
  | [d1, d2] => { results := [.lit (.bool false)], args := [d1, d2] }
  | _ => none }
def StyleBackWrongFalsely : Prop := styleBackRow.holds Try.pinned (OpenSpec.ofChange styleBackWrong)

/-- 'codexlaw12.StylePlaces': WHATEVER THE INPUT: true; the input reads as it did. -/
def stylePlacesSpec : ChangeSpec := { name := "stylePlaces", fn := fun _ => fun
  | [d1, d2, d3] => { results := [.lit (.bool true)], args := [d1, d2, d3] }
  | _ => none }
def stylePlacesRow : OpenClaim := { program := "ytjfkaebikmnnaaa", sum := "c6d049187943cd392a1c57fe271baa5b90d80c3fc42e932cdf0ede732d27525f", func := "codex/codexlaw12.StylePlaces", spec := "stylePlaces", unfollowed := true, recurses := true, apart := false }
def StylePlacesSaid : Prop := stylePlacesRow.holds Try.pinned (OpenSpec.ofChange stylePlacesSpec)

/-- ITS FALSE NEIGHBOUR: 'it returns false'. Refute it at one input. -/
def stylePlacesWrong : ChangeSpec := { name := "stylePlaces", fn := fun _ => fun
  | [d1, d2, d3] => { results := [.lit (.bool false)], args := [d1, d2, d3] }
  | _ => none }
def StylePlacesWrongFalsely : Prop := stylePlacesRow.holds Try.pinned (OpenSpec.ofChange stylePlacesWrong)

/-- 'codexlaw24.RevisionCodes': WHATEVER THE INPUT: true; the input reads as it did. -/
def revisionCodesSpec : ChangeSpec := { name := "revisionCodes", fn := fun _ => fun
  | [d1, d2, d3] => { results := [.lit (.bool true)], args := [d1, d2, d3] }
  | _ => none }
def revisionCodesRow : OpenClaim := { program := "ytjfkaebikmnnaaa", sum := "c6d049187943cd392a1c57fe271baa5b90d80c3fc42e932cdf0ede732d27525f", func := "codex/codexlaw24.RevisionCodes", spec := "revisionCodes", unfollowed := true, recurses := true, apart := false }
def RevisionCodesSaid : Prop := revisionCodesRow.holds Try.pinned (OpenSpec.ofChange revisionCodesSpec)

/-- ITS FALSE NEIGHBOUR: 'it returns false'. Refute it at one input. -/
def revisionCodesWrong : ChangeSpec := { name := "revisionCodes", fn := fun _ => fun
  | [d1, d2, d3] => { results := [.lit (.bool false)], args := [d1, d2, d3] }
  | _ => none }
def RevisionCodesWrongFalsely : Prop := revisionCodesRow.holds Try.pinned (OpenSpec.ofChange revisionCodesWrong)

/-- 'codexlaw24.RevisionBack': WHATEVER THE INPUT: true; the input reads as it did. -/
def revisionBackSpec : ChangeSpec := { name := "revisionBack", fn := fun _ => fun
  | [d1, d2, d3] => { results := [.lit (.bool true)], args := [d1, d2, d3] }
  | _ => none }
def revisionBackRow : OpenClaim := { program := "ytjfkaebikmnnaaa", sum := "c6d049187943cd392a1c57fe271baa5b90d80c3fc42e932cdf0ede732d27525f", func := "codex/codexlaw24.RevisionBack", spec := "revisionBack", unfollowed := true, recurses := true, apart := false }
def RevisionBackSaid : Prop := revisionBackRow.holds Try.pinned (OpenSpec.ofChange revisionBackSpec)

/-- ITS FALSE NEIGHBOUR: 'it returns false'. Refute it at one input. -/
def revisionBackWrong : ChangeSpec := { name := "revisionBack", fn := fun _ => fun
  | [d1, d2, d3] => { results := [.lit (.bool false)], args := [d1, d2, d3] }
  | _ => none }
def RevisionBackWrongFalsely : Prop := revisionBackRow.holds Try.pinned (OpenSpec.ofChange revisionBackWrong)

/-- 'codexlaw24.LogOrder': WHATEVER THE INPUT: true; the input reads as it did. -/
def logOrderSpec : ChangeSpec := { name := "logOrder", fn := fun _ => fun
  | [d] => { results := [.lit (.bool true)], args := [d] }
  | _ => none }
def logOrderRow : OpenClaim := { program := "ytjfkaebikmnnaaa", sum := "c6d049187943cd392a1c57fe271baa5b90d80c3fc42e932cdf0ede732d27525f", func := "codex/codexlaw24.LogOrder", spec := "logOrder", unfollowed := true, recurses := true, apart := false }
def LogOrderSaid : Prop := logOrderRow.holds Try.pinned (OpenSpec.ofChange logOrderSpec)

/-- ITS FALSE NEIGHBOUR: 'it returns false'. Refute it at one input. -/
def logOrderWrong : ChangeSpec := { name := "logOrder", fn := fun _ => fun
  | [d] => { results := [.lit (.bool false)], args := [d] }
  | _ => none }
def LogOrderWrongFalsely : Prop := logOrderRow.holds Try.pinned (OpenSpec.ofChange logOrderWrong)

/-- 'codexlaw24.RevPlaces': WHATEVER THE INPUT: true; the input reads as it did. -/
def revPlacesSpec : ChangeSpec := { name := "revPlaces", fn := fun _ => fun
  | [d] => { results := [.lit (.bool true)], args := [d] }
  | _ => none }
def revPlacesRow : OpenClaim := { program := "ytjfkaebikmnnaaa", sum := "c6d049187943cd392a1c57fe271baa5b90d80c3fc42e932cdf0ede732d27525f", func := "codex/codexlaw24.RevPlaces", spec := "revPlaces", unfollowed := true, recurses := true, apart := false }
def RevPlacesSaid : Prop := revPlacesRow.holds Try.pinned (OpenSpec.ofChange revPlacesSpec)

/-- ITS FALSE NEIGHBOUR: 'it returns false'. Refute it at one input. -/
def revPlacesWrong : ChangeSpec := { name := "revPlaces", fn := fun _ => fun
  | [d] => { results := [.lit (.bool false)], args := [d] }
  | _ => none }
def RevPlacesWrongFalsely : Prop := revPlacesRow.holds Try.pinned (OpenSpec.ofChange revPlacesWrong)

/- THE SECOND FORM. 'bulk': how many values and letters a reading holds, each counted each time it is reached (what is shared counts as often as it is met; a slice's spare places count too). A statement '..UptoSaid' is the law's where the arguments, and the package variables that the reading takes, are together of bulk at most 1048576: NARROWER than '..Said'. Prove '..Said' where nothing that the law and all that it calls make is longer than what came in: it says more and counts as full. Else prove '..UptoSaid'. A law counts once. -/
mutual
def uptoBulk {H : Type} : DataW H → Nat
  | .lit (.string bytes) => bytes.length + 1
  | .lit _ => 1
  | .nil => 1
  | .ptr d => uptoBulk d + 1
  | .slice elems spare => uptoBulkAll elems + uptoBulkAll spare + 1
  | .agg parts => uptoBulkAll parts + 1
  | .iface _ d => uptoBulk d + 1
  | .map entries => uptoBulkEntries entries + 1
  | .held _ => 1
def uptoBulkAll {H : Type} : List (DataW H) → Nat
  | [] => 0
  | d :: r => uptoBulk d + uptoBulkAll r
def uptoBulkEntries {H : Type} : List (Lit × DataW H) → Nat
  | [] => 0
  | x :: r => uptoBulkEntry x + uptoBulkEntries r
def uptoBulkEntry {H : Type} : Lit × DataW H → Nat
  | (.string bytes, d) => bytes.length + uptoBulk d + 1
  | (_, d) => uptoBulk d + 1
 end
def uptoSmall : (H : Type) → List (DataW H) → Bool := fun _ ds => decide (uptoBulkAll ds ≤ 1048576)
def OpenSpec.upto (s : _root_.Go.ChangeSpec) : _root_.Go.OpenSpec := { _root_.Go.OpenSpec.ofChange s with cond := some uptoSmall }

/-- 'codexlaw12.StyleCodes', WHERE WHAT IT READS IS OF BULK AT MOST 1048576: true; the input reads as it did. -/
def styleCodesUptoRow : OpenClaim := { program := "ytjfkaebikmnnaaa", sum := "c6d049187943cd392a1c57fe271baa5b90d80c3fc42e932cdf0ede732d27525f", func := "codex/codexlaw12.StyleCodes", spec := "styleCodes", unfollowed := true, recurses := true, apart := false, narrowed := true }
def StyleCodesUptoSaid : Prop := styleCodesUptoRow.holds Try.pinned (OpenSpec.upto styleCodesSpec)

/-- 'codexlaw12.StyleBack', WHERE WHAT IT READS IS OF BULK AT MOST 1048576: true; the input reads as it did. -/
def styleBackUptoRow : OpenClaim := { program := "ytjfkaebikmnnaaa", sum := "c6d049187943cd392a1c57fe271baa5b90d80c3fc42e932cdf0ede732d27525f", func := "codex/codexlaw12.StyleBack", spec := "styleBack", unfollowed := true, recurses := true, apart := false, narrowed := true }
def StyleBackUptoSaid : Prop := styleBackUptoRow.holds Try.pinned (OpenSpec.upto styleBackSpec)

/-- 'codexlaw12.StylePlaces', WHERE WHAT IT READS IS OF BULK AT MOST 1048576: true; the input reads as it did. -/
def stylePlacesUptoRow : OpenClaim := { program := "ytjfkaebikmnnaaa", sum := "c6d049187943cd392a1c57fe271baa5b90d80c3fc42e932cdf0ede732d27525f", func := "codex/codexlaw12.StylePlaces", spec := "stylePlaces", unfollowed := true, recurses := true, apart := false, narrowed := true }
def StylePlacesUptoSaid : Prop := stylePlacesUptoRow.holds Try.pinned (OpenSpec.upto stylePlacesSpec)

/-- 'codexlaw24.RevisionCodes', WHERE WHAT IT READS IS OF BULK AT MOST 1048576: true; the input reads as it did. -/
def revisionCodesUptoRow : OpenClaim := { program := "ytjfkaebikmnnaaa", sum := "c6d049187943cd392a1c57fe271baa5b90d80c3fc42e932cdf0ede732d27525f", func := "codex/codexlaw24.RevisionCodes", spec := "revisionCodes", unfollowed := true, recurses := true, apart := false, narrowed := true }
def RevisionCodesUptoSaid : Prop := revisionCodesUptoRow.holds Try.pinned (OpenSpec.upto revisionCodesSpec)

/-- 'codexlaw24.RevisionBack', WHERE WHAT IT READS IS OF BULK AT MOST 1048576: true; the input reads as it did. -/
def revisionBackUptoRow : OpenClaim := { program := "ytjfkaebikmnnaaa", sum := "c6d049187943cd392a1c57fe271baa5b90d80c3fc42e932cdf0ede732d27525f", func := "codex/codexlaw24.RevisionBack", spec := "revisionBack", unfollowed := true, recurses := true, apart := false, narrowed := true }
def RevisionBackUptoSaid : Prop := revisionBackUptoRow.holds Try.pinned (OpenSpec.upto revisionBackSpec)

/-- 'codexlaw24.LogOrder', WHERE WHAT IT READS IS OF BULK AT MOST 1048576: true; the input reads as it did. -/
def logOrderUptoRow : OpenClaim := { program := "ytjfkaebikmnnaaa", sum := "c6d049187943cd392a1c57fe271baa5b90d80c3fc42e932cdf0ede732d27525f", func := "codex/codexlaw24.LogOrder", spec := "logOrder", unfollowed := true, recurses := true, apart := false, narrowed := true }
def LogOrderUptoSaid : Prop := logOrderUptoRow.holds Try.pinned (OpenSpec.upto logOrderSpec)

/-- 'codexlaw24.RevPlaces', WHERE WHAT IT READS IS OF BULK AT MOST 1048576: true; the input reads as it did. -/
def revPlacesUptoRow : OpenClaim := { program := "ytjfkaebikmnnaaa", sum := "c6d049187943cd392a1c57fe271baa5b90d80c3fc42e932cdf0ede732d27525f", func := "codex/codexlaw24.RevPlaces", spec := "revPlaces", unfollowed := true, recurses := true, apart := false, narrowed := true }
def RevPlacesUptoSaid : Prop := revPlacesUptoRow.holds Try.pinned (OpenSpec.upto revPlacesSpec)

end Rows
end Go.Proofs.Ytjfkaebikmnnaaa
