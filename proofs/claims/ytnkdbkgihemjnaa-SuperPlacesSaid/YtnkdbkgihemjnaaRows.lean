/-
  No cell of these rows narrows 'for every input' (looked for: loops, veiled, ifaces, maps, wideKeys, modest, calm, conditions, laid).
  DERIVED. THE GIVEN ROWS OF THIS SEAT. 12 by the template 'for every input the law returns true; each argument reads behind the call as it read before'; 0 by the template 'total and deterministic' (their statements: YtnkdbkgihemjnaaTotals.lean).
  GIVEN WITH THE SEED: the statements are not yours to turn. If you find one false, say at which input.
  Laid BY PROGRAM, IN A SANDBOX (cutbox-rows.mjs): the forced cells as the released guide's own fill.sh prints them over the translation 5430554236422d9d… (all of the seat's roots in one cut). By AI agents, Wed Nov 11 2026. No macro, syntax, notation, axiom, sorry.
-/
import Derived.Test.YtnkdbkgihemjnaaChecked
import GoSem.Claim
import GoSem.ClaimJoined
import GoSem.ClaimMapViews
import Derived.JoinedTies
import Derived.KernelRfl
namespace Go.Proofs.Ytnkdbkgihemjnaa
/- THE CELL 'sum', in the pinned program and in every row, IS THE sha256 OF THE DUMP (.gsa) THAT YtnkdbkgihemjnaaProg.lean LOADS. Nothing in Lean hashes anything: it is a label: what it is worth is what the hold of that sum in a sandbox is worth. -/
noncomputable def Try.pinned : Pinned := { name := "ytnkdbkgihemjnaa", sum := "5430554236422d9d5a276bb2e133b03ec03ef8b1b3990dba6964d4d4fc4d580b", checked := Try.checked }
namespace Rows
def none {H : Type} : Left H := { results := [], args := [] }

/-- 'codexlaw07.SuperPlays': WHATEVER THE INPUT: true; the input reads as it did. -/
def superPlaysSpec : ChangeSpec := { name := "superPlays", fn := fun _ => fun
  | [d1, d2] => { results := [.lit (.bool true)], args := [d1, d2] }
  | _ => none }
def superPlaysRow : OpenClaim := { program := "ytnkdbkgihemjnaa", sum := "5430554236422d9d5a276bb2e133b03ec03ef8b1b3990dba6964d4d4fc4d580b", func := "codex/codexlaw07.SuperPlays", spec := "superPlays", unfollowed := true, recurses := true, apart := false }
def SuperPlaysSaid : Prop := superPlaysRow.holds Try.pinned (OpenSpec.ofChange superPlaysSpec)

/-- ITS FALSE NEIGHBOUR: 'it returns false'. Refute it at one input. -/
def superPlaysWrong : ChangeSpec := { name := "superPlays", fn := fun _ => fun
  | [d1, d2] => { results := [.lit (.bool false)], args := [d1, d2] }
  | _ => none }
def SuperPlaysWrongFalsely : Prop := superPlaysRow.holds Try.pinned (OpenSpec.ofChange superPlaysWrong)

/-- 'codexlaw07.SuperTorn': WHATEVER THE INPUT: true; the input reads as it did. -/
def superTornSpec : ChangeSpec := { name := "superTorn", fn := fun _ => fun
  | [d1, d2] => { results := [.lit (.bool true)], args := [d1, d2] }
  | _ => none }
def superTornRow : OpenClaim := { program := "ytnkdbkgihemjnaa", sum := "5430554236422d9d5a276bb2e133b03ec03ef8b1b3990dba6964d4d4fc4d580b", func := "codex/codexlaw07.SuperTorn", spec := "superTorn", unfollowed := true, recurses := true, apart := false }
def SuperTornSaid : Prop := superTornRow.holds Try.pinned (OpenSpec.ofChange superTornSpec)

/-- ITS FALSE NEIGHBOUR: 'it returns false'. Refute it at one input. -/
def superTornWrong : ChangeSpec := { name := "superTorn", fn := fun _ => fun
  | [d1, d2] => { results := [.lit (.bool false)], args := [d1, d2] }
  | _ => none }
def SuperTornWrongFalsely : Prop := superTornRow.holds Try.pinned (OpenSpec.ofChange superTornWrong)

/-- 'codexlaw05.LeafCodes': WHATEVER THE INPUT: true; the input reads as it did. -/
def leafCodesSpec : ChangeSpec := { name := "leafCodes", fn := fun _ => fun
  | [d1, d2, d3] => { results := [.lit (.bool true)], args := [d1, d2, d3] }
  | _ => none }
def leafCodesRow : OpenClaim := { program := "ytnkdbkgihemjnaa", sum := "5430554236422d9d5a276bb2e133b03ec03ef8b1b3990dba6964d4d4fc4d580b", func := "codex/codexlaw05.LeafCodes", spec := "leafCodes", inPlace := ["internal/bytealg.Compare"], unfollowed := true, recurses := true, apart := false }
def LeafCodesSaid : Prop := leafCodesRow.holds Try.pinned (OpenSpec.ofChange leafCodesSpec)

/-- ITS FALSE NEIGHBOUR: 'it returns false'. Refute it at one input. -/
def leafCodesWrong : ChangeSpec := { name := "leafCodes", fn := fun _ => fun
  | [d1, d2, d3] => { results := [.lit (.bool false)], args := [d1, d2, d3] }
  | _ => none }
def LeafCodesWrongFalsely : Prop := leafCodesRow.holds Try.pinned (OpenSpec.ofChange leafCodesWrong)

/-- 'codexlaw05.LeafBack': WHATEVER THE INPUT: true; the input reads as it did. -/
def leafBackSpec : ChangeSpec := { name := "leafBack", fn := fun _ => fun
  | [d1, d2, d3] => { results := [.lit (.bool true)], args := [d1, d2, d3] }
  | _ => none }
def leafBackRow : OpenClaim := { program := "ytnkdbkgihemjnaa", sum := "5430554236422d9d5a276bb2e133b03ec03ef8b1b3990dba6964d4d4fc4d580b", func := "codex/codexlaw05.LeafBack", spec := "leafBack", inPlace := ["internal/bytealg.Compare"], unfollowed := true, recurses := true, apart := false }
def LeafBackSaid : Prop := leafBackRow.holds Try.pinned (OpenSpec.ofChange leafBackSpec)

/-- ITS FALSE NEIGHBOUR: 'it returns false'. Refute it at one input. -/
def leafBackWrong : ChangeSpec := { name := "leafBack", fn := fun _ => fun
  | [d1, d2, d3] => { results := [.lit (.bool false)], args := [d1, d2, d3] }
  | _ => none }
def LeafBackWrongFalsely : Prop := leafBackRow.holds Try.pinned (OpenSpec.ofChange leafBackWrong)

/-- 'codexlaw05.LeafPlaces': WHATEVER THE INPUT: true; the input reads as it did. -/
def leafPlacesSpec : ChangeSpec := { name := "leafPlaces", fn := fun _ => fun
  | [d1, d2] => { results := [.lit (.bool true)], args := [d1, d2] }
  | _ => none }
def leafPlacesRow : OpenClaim := { program := "ytnkdbkgihemjnaa", sum := "5430554236422d9d5a276bb2e133b03ec03ef8b1b3990dba6964d4d4fc4d580b", func := "codex/codexlaw05.LeafPlaces", spec := "leafPlaces", inPlace := ["internal/bytealg.Compare"], unfollowed := true, recurses := true, apart := false }
def LeafPlacesSaid : Prop := leafPlacesRow.holds Try.pinned (OpenSpec.ofChange leafPlacesSpec)

/-- ITS FALSE NEIGHBOUR: 'it returns false'. Refute it at one input. -/
def leafPlacesWrong : ChangeSpec := { name := "leafPlaces", fn := fun _ => fun
  | [d1, d2] => { results := [.lit (.bool false)], args := [d1, d2] }
  | _ => none }
def LeafPlacesWrongFalsely : Prop := leafPlacesRow.holds Try.pinned (OpenSpec.ofChange leafPlacesWrong)

/-- 'codexlaw05.LeafTurns': WHATEVER THE INPUT: true; the input reads as it did. -/
def leafTurnsSpec : ChangeSpec := { name := "leafTurns", fn := fun _ => fun
  | [d1, d2, d3] => { results := [.lit (.bool true)], args := [d1, d2, d3] }
  | _ => none }
def leafTurnsRow : OpenClaim := { program := "ytnkdbkgihemjnaa", sum := "5430554236422d9d5a276bb2e133b03ec03ef8b1b3990dba6964d4d4fc4d580b", func := "codex/codexlaw05.LeafTurns", spec := "leafTurns", inPlace := ["internal/bytealg.Compare"], unfollowed := true, recurses := true, apart := false }
def LeafTurnsSaid : Prop := leafTurnsRow.holds Try.pinned (OpenSpec.ofChange leafTurnsSpec)

/-- ITS FALSE NEIGHBOUR: 'it returns false'. Refute it at one input. -/
def leafTurnsWrong : ChangeSpec := { name := "leafTurns", fn := fun _ => fun
  | [d1, d2, d3] => { results := [.lit (.bool false)], args := [d1, d2, d3] }
  | _ => none }
def LeafTurnsWrongFalsely : Prop := leafTurnsRow.holds Try.pinned (OpenSpec.ofChange leafTurnsWrong)

/-- 'codexlaw05.LeafOrder': WHATEVER THE INPUT: true; the input reads as it did. -/
def leafOrderSpec : ChangeSpec := { name := "leafOrder", fn := fun _ => fun
  | [d] => { results := [.lit (.bool true)], args := [d] }
  | _ => none }
def leafOrderRow : OpenClaim := { program := "ytnkdbkgihemjnaa", sum := "5430554236422d9d5a276bb2e133b03ec03ef8b1b3990dba6964d4d4fc4d580b", func := "codex/codexlaw05.LeafOrder", spec := "leafOrder", inPlace := ["internal/bytealg.Compare"], unfollowed := true, recurses := true, apart := false }
def LeafOrderSaid : Prop := leafOrderRow.holds Try.pinned (OpenSpec.ofChange leafOrderSpec)

/-- ITS FALSE NEIGHBOUR: 'it returns false'. Refute it at one input. -/
def leafOrderWrong : ChangeSpec := { name := "leafOrder", fn := fun _ => fun
  | [d] => { results := [.lit (.bool false)], args := [d] }
  | _ => none }
def LeafOrderWrongFalsely : Prop := leafOrderRow.holds Try.pinned (OpenSpec.ofChange leafOrderWrong)

/-- 'codexlaw07.SuperCodes': WHATEVER THE INPUT: true; the input reads as it did. -/
def superCodesSpec : ChangeSpec := { name := "superCodes", fn := fun _ => fun
  | [d1, d2] => { results := [.lit (.bool true)], args := [d1, d2] }
  | _ => none }
def superCodesRow : OpenClaim := { program := "ytnkdbkgihemjnaa", sum := "5430554236422d9d5a276bb2e133b03ec03ef8b1b3990dba6964d4d4fc4d580b", func := "codex/codexlaw07.SuperCodes", spec := "superCodes", unfollowed := true, recurses := true, apart := false }
def SuperCodesSaid : Prop := superCodesRow.holds Try.pinned (OpenSpec.ofChange superCodesSpec)

/-- ITS FALSE NEIGHBOUR: 'it returns false'. Refute it at one input. -/
def superCodesWrong : ChangeSpec := { name := "superCodes", fn := fun _ => fun
  | [d1, d2] => { results := [.lit (.bool false)], args := [d1, d2] }
  | _ => none }
def SuperCodesWrongFalsely : Prop := superCodesRow.holds Try.pinned (OpenSpec.ofChange superCodesWrong)

/-- 'codexlaw07.SuperNone': WHATEVER THE INPUT: true; the input reads as it did. -/
def superNoneSpec : ChangeSpec := { name := "superNone", fn := fun _ => fun
  | [d] => { results := [.lit (.bool true)], args := [d] }
  | _ => none }
def superNoneRow : OpenClaim := { program := "ytnkdbkgihemjnaa", sum := "5430554236422d9d5a276bb2e133b03ec03ef8b1b3990dba6964d4d4fc4d580b", func := "codex/codexlaw07.SuperNone", spec := "superNone", unfollowed := true, recurses := true, apart := false }
def SuperNoneSaid : Prop := superNoneRow.holds Try.pinned (OpenSpec.ofChange superNoneSpec)

/-- ITS FALSE NEIGHBOUR: 'it returns false'. Refute it at one input. -/
def superNoneWrong : ChangeSpec := { name := "superNone", fn := fun _ => fun
  | [d] => { results := [.lit (.bool false)], args := [d] }
  | _ => none }
def SuperNoneWrongFalsely : Prop := superNoneRow.holds Try.pinned (OpenSpec.ofChange superNoneWrong)

/-- 'codexlaw07.SuperPlaces': WHATEVER THE INPUT: true; the input reads as it did. -/
def superPlacesSpec : ChangeSpec := { name := "superPlaces", fn := fun _ => fun
  | [d] => { results := [.lit (.bool true)], args := [d] }
  | _ => none }
def superPlacesRow : OpenClaim := { program := "ytnkdbkgihemjnaa", sum := "5430554236422d9d5a276bb2e133b03ec03ef8b1b3990dba6964d4d4fc4d580b", func := "codex/codexlaw07.SuperPlaces", spec := "superPlaces", unfollowed := true, recurses := true, apart := false }
def SuperPlacesSaid : Prop := superPlacesRow.holds Try.pinned (OpenSpec.ofChange superPlacesSpec)

/-- ITS FALSE NEIGHBOUR: 'it returns false'. Refute it at one input. -/
def superPlacesWrong : ChangeSpec := { name := "superPlaces", fn := fun _ => fun
  | [d] => { results := [.lit (.bool false)], args := [d] }
  | _ => none }
def SuperPlacesWrongFalsely : Prop := superPlacesRow.holds Try.pinned (OpenSpec.ofChange superPlacesWrong)

/-- 'codexlaw07.SuperTurns': WHATEVER THE INPUT: true; the input reads as it did. -/
def superTurnsSpec : ChangeSpec := { name := "superTurns", fn := fun _ => fun
  | [d1, d2] => { results := [.lit (.bool true)], args := [d1, d2] }
  | _ => none }
def superTurnsRow : OpenClaim := { program := "ytnkdbkgihemjnaa", sum := "5430554236422d9d5a276bb2e133b03ec03ef8b1b3990dba6964d4d4fc4d580b", func := "codex/codexlaw07.SuperTurns", spec := "superTurns", unfollowed := true, recurses := true, apart := false }
def SuperTurnsSaid : Prop := superTurnsRow.holds Try.pinned (OpenSpec.ofChange superTurnsSpec)

/-- ITS FALSE NEIGHBOUR: 'it returns false'. Refute it at one input. -/
def superTurnsWrong : ChangeSpec := { name := "superTurns", fn := fun _ => fun
  | [d1, d2] => { results := [.lit (.bool false)], args := [d1, d2] }
  | _ => none }
def SuperTurnsWrongFalsely : Prop := superTurnsRow.holds Try.pinned (OpenSpec.ofChange superTurnsWrong)

/-- 'codexlaw07.SuperUsed': WHATEVER THE INPUT: true; the input reads as it did. -/
def superUsedSpec : ChangeSpec := { name := "superUsed", fn := fun _ => fun
  | [d1, d2, d3] => { results := [.lit (.bool true)], args := [d1, d2, d3] }
  | _ => none }
def superUsedRow : OpenClaim := { program := "ytnkdbkgihemjnaa", sum := "5430554236422d9d5a276bb2e133b03ec03ef8b1b3990dba6964d4d4fc4d580b", func := "codex/codexlaw07.SuperUsed", spec := "superUsed", unfollowed := true, recurses := true, apart := false }
def SuperUsedSaid : Prop := superUsedRow.holds Try.pinned (OpenSpec.ofChange superUsedSpec)

/-- ITS FALSE NEIGHBOUR: 'it returns false'. Refute it at one input. -/
def superUsedWrong : ChangeSpec := { name := "superUsed", fn := fun _ => fun
  | [d1, d2, d3] => { results := [.lit (.bool false)], args := [d1, d2, d3] }
  | _ => none }
def SuperUsedWrongFalsely : Prop := superUsedRow.holds Try.pinned (OpenSpec.ofChange superUsedWrong)

/- THE SECOND FORM. 'bulk': how many values and letters a reading holds, each counted each time it is reached (what is shared counts as often as it is met; a slice's spare places count too). A statement '..UptoSaid' is the law's where the arguments, and the package variables that the reading takes, are together of bulk at most 1048576: NARROWER than '..Said'. Prove '..Said' where nothing that the law and all that it calls make is longer than what came in: it says more and counts as full. Else prove '..UptoSaid'. A law counts once. -/
mutual
def uptoBulk {H : Type} : DataW H → Nat
  | .lit (.string bytes) => bytes.length + 1
  | .lit _ => 1
  | .nil => 1
  | .ptr d => uptoBulk d + 1
  | .slice elems spare => uptoBulkAll elems + uptoBulkAll spare + 1
  | .agg parts => uptoBulkAll parts + 1
  | .iface _ d => uptoBulk d + 1
  | .map entries => uptoBulkEntries entries + 1
  | .held _ => 1
def uptoBulkAll {H : Type} : List (DataW H) → Nat
  | [] => 0
  | d :: r => uptoBulk d + uptoBulkAll r
def uptoBulkEntries {H : Type} : List (Lit × DataW H) → Nat
  | [] => 0
  | x :: r => uptoBulkEntry x + uptoBulkEntries r
def uptoBulkEntry {H : Type} : Lit × DataW H → Nat
  | (.string bytes, d) => bytes.length + uptoBulk d + 1
  | (_, d) => uptoBulk d + 1
 end
def uptoSmall : (H : Type) → List (DataW H) → Bool := fun _ ds => decide (uptoBulkAll ds ≤ 1048576)
def OpenSpec.upto (s : _root_.Go.ChangeSpec) : _root_.Go.OpenSpec := { _root_.Go.OpenSpec.ofChange s with cond := some uptoSmall }

/-- 'codexlaw07.SuperPlays', WHERE WHAT IT READS IS OF BULK AT MOST 1048576: true; the input reads as it did. -/
def superPlaysUptoRow : OpenClaim := { program := "ytnkdbkgihemjnaa", sum := "5430554236422d9d5a276bb2e133b03ec03ef8b1b3990dba6964d4d4fc4d580b", func := "codex/codexlaw07.SuperPlays", spec := "superPlays", unfollowed := true, recurses := true, apart := false, narrowed := true }
def SuperPlaysUptoSaid : Prop := superPlaysUptoRow.holds Try.pinned (OpenSpec.upto superPlaysSpec)

/-- 'codexlaw07.SuperTorn', WHERE WHAT IT READS IS OF BULK AT MOST 1048576: true; the input reads as it did. -/
def superTornUptoRow : OpenClaim := { program := "ytnkdbkgihemjnaa", sum := "5430554236422d9d5a276bb2e133b03ec03ef8b1b3990dba6964d4d4fc4d580b", func := "codex/codexlaw07.SuperTorn", spec := "superTorn", unfollowed := true, recurses := true, apart := false, narrowed := true }
def SuperTornUptoSaid : Prop := superTornUptoRow.holds Try.pinned (OpenSpec.upto superTornSpec)

/-- 'codexlaw05.LeafCodes', WHERE WHAT IT READS IS OF BULK AT MOST 1048576: true; the input reads as it did. -/
def leafCodesUptoRow : OpenClaim := { program := "ytnkdbkgihemjnaa", sum := "5430554236422d9d5a276bb2e133b03ec03ef8b1b3990dba6964d4d4fc4d580b", func := "codex/codexlaw05.LeafCodes", spec := "leafCodes", inPlace := ["internal/bytealg.Compare"], unfollowed := true, recurses := true, apart := false, narrowed := true }
def LeafCodesUptoSaid : Prop := leafCodesUptoRow.holds Try.pinned (OpenSpec.upto leafCodesSpec)

/-- 'codexlaw05.LeafBack', WHERE WHAT IT READS IS OF BULK AT MOST 1048576: true; the input reads as it did. -/
def leafBackUptoRow : OpenClaim := { program := "ytnkdbkgihemjnaa", sum := "5430554236422d9d5a276bb2e133b03ec03ef8b1b3990dba6964d4d4fc4d580b", func := "codex/codexlaw05.LeafBack", spec := "leafBack", inPlace := ["internal/bytealg.Compare"], unfollowed := true, recurses := true, apart := false, narrowed := true }
def LeafBackUptoSaid : Prop := leafBackUptoRow.holds Try.pinned (OpenSpec.upto leafBackSpec)

/-- 'codexlaw05.LeafPlaces', WHERE WHAT IT READS IS OF BULK AT MOST 1048576: true; the input reads as it did. -/
def leafPlacesUptoRow : OpenClaim := { program := "ytnkdbkgihemjnaa", sum := "5430554236422d9d5a276bb2e133b03ec03ef8b1b3990dba6964d4d4fc4d580b", func := "codex/codexlaw05.LeafPlaces", spec := "leafPlaces", inPlace := ["internal/bytealg.Compare"], unfollowed := true, recurses := true, apart := false, narrowed := true }
def LeafPlacesUptoSaid : Prop := leafPlacesUptoRow.holds Try.pinned (OpenSpec.upto leafPlacesSpec)

/-- 'codexlaw05.LeafTurns', WHERE WHAT IT READS IS OF BULK AT MOST 1048576: true; the input reads as it did. -/
def leafTurnsUptoRow : OpenClaim := { program := "ytnkdbkgihemjnaa", sum := "5430554236422d9d5a276bb2e133b03ec03ef8b1b3990dba6964d4d4fc4d580b", func := "codex/codexlaw05.LeafTurns", spec := "leafTurns", inPlace := ["internal/bytealg.Compare"], unfollowed := true, recurses := true, apart := false, narrowed := true }
def LeafTurnsUptoSaid : Prop := leafTurnsUptoRow.holds Try.pinned (OpenSpec.upto leafTurnsSpec)

/-- 'codexlaw05.LeafOrder', WHERE WHAT IT READS IS OF BULK AT MOST 1048576: true; the input reads as it did. -/
def leafOrderUptoRow : OpenClaim := { program := "ytnkdbkgihemjnaa", sum := "5430554236422d9d5a276bb2e133b03ec03ef8b1b3990dba6964d4d4fc4d580b", func := "codex/codexlaw05.LeafOrder", spec := "leafOrder", inPlace := ["internal/bytealg.Compare"], unfollowed := true, recurses := true, apart := false, narrowed := true }
def LeafOrderUptoSaid : Prop := leafOrderUptoRow.holds Try.pinned (OpenSpec.upto leafOrderSpec)

/-- 'codexlaw07.SuperCodes', WHERE WHAT IT READS IS OF BULK AT MOST 1048576: true; the input reads as it did. -/
def superCodesUptoRow : OpenClaim := { program := "ytnkdbkgihemjnaa", sum := "5430554236422d9d5a276bb2e133b03ec03ef8b1b3990dba6964d4d4fc4d580b", func := "codex/codexlaw07.SuperCodes", spec := "superCodes", unfollowed := true, recurses := true, apart := false, narrowed := true }
def SuperCodesUptoSaid : Prop := superCodesUptoRow.holds Try.pinned (OpenSpec.upto superCodesSpec)

/-- 'codexlaw07.SuperNone', WHERE WHAT IT READS IS OF BULK AT MOST 1048576: true; the input reads as it did. -/
def superNoneUptoRow : OpenClaim := { program := "ytnkdbkgihemjnaa", sum := "5430554236422d9d5a276bb2e133b03ec03ef8b1b3990dba6964d4d4fc4d580b", func := "codex/codexlaw07.SuperNone", spec := "superNone", unfollowed := true, recurses := true, apart := false, narrowed := true }
def SuperNoneUptoSaid : Prop := superNoneUptoRow.holds Try.pinned (OpenSpec.upto superNoneSpec)

/-- 'codexlaw07.SuperPlaces', WHERE WHAT IT READS IS OF BULK AT MOST 1048576: true; the input reads as it did. -/
def superPlacesUptoRow : OpenClaim := { program := "ytnkdbkgihemjnaa", sum := "5430554236422d9d5a276bb2e133b03ec03ef8b1b3990dba6964d4d4fc4d580b", func := "codex/codexlaw07.SuperPlaces", spec := "superPlaces", unfollowed := true, recurses := true, apart := false, narrowed := true }
def SuperPlacesUptoSaid : Prop := superPlacesUptoRow.holds Try.pinned (OpenSpec.upto superPlacesSpec)

/-- 'codexlaw07.SuperTurns', WHERE WHAT IT READS IS OF BULK AT MOST 1048576: true; the input reads as it did. -/
def superTurnsUptoRow : OpenClaim := { program := "ytnkdbkgihemjnaa", sum := "5430554236422d9d5a276bb2e133b03ec03ef8b1b3990dba6964d4d4fc4d580b", func := "codex/codexlaw07.SuperTurns", spec := "superTurns", unfollowed := true, recurses := true, apart := false, narrowed := true }
def SuperTurnsUptoSaid : Prop := superTurnsUptoRow.holds Try.pinned (OpenSpec.upto superTurnsSpec)

/-- 'codexlaw07.SuperUsed', WHERE WHAT IT READS IS OF BULK AT MOST 1048576: true; the input reads as it did. -/
def superUsedUptoRow : OpenClaim := { program := "ytnkdbkgihemjnaa", sum := "5430554236422d9d5a276bb2e133b03ec03ef8b1b3990dba6964d4d4fc4d580b", func := "codex/codexlaw07.SuperUsed", spec := "superUsed", unfollowed := true, recurses := true, apart := false, narrowed := true }
def SuperUsedUptoSaid : Prop := superUsedUptoRow.holds Try.pinned (OpenSpec.upto superUsedSpec)

end Rows
end Go.Proofs.Ytnkdbkgihemjnaa
