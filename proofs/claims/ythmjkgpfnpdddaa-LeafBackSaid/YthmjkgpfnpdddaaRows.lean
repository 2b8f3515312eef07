/-
  No cell of these rows narrows 'for every input' (looked for: loops, veiled, ifaces, maps, wideKeys, modest, calm, conditions, laid).
  DERIVED. THE GIVEN ROWS OF THIS SEAT. 10 by the template 'for every input the law returns true; each argument reads behind the call as it read before'; 0 by the template 'total and deterministic' (their statements: YthmjkgpfnpdddaaTotals.lean).
  GIVEN WITH THE SEED: the statements are not yours to turn. If you find one false, say at which input.
  Laid BY PROGRAM, IN A SANDBOX (cutbox-rows.mjs): the forced cells as the released guide's own fill.sh prints them over the translation a23dc751f1e9d19e… (all of the seat's roots in one cut). By AI agents, Wed Nov 11 2026. No macro, syntax, notation, axiom, sorry.
-/
import Derived.Test.YthmjkgpfnpdddaaChecked
import GoSem.Claim
import GoSem.ClaimJoined
import GoSem.ClaimMapViews
import Derived.JoinedTies
import Derived.KernelRfl
namespace Go.Proofs.Ythmjkgpfnpdddaa
/- THE CELL 'sum', in the pinned program and in every row, IS THE sha256 OF THE DUMP (.gsa) THAT YthmjkgpfnpdddaaProg.lean LOADS. Nothing in Lean hashes anything: it is a label: what it is worth is what the hold of that sum in a sandbox is worth. -/
noncomputable def Try.pinned : Pinned := { name := "ythmjkgpfnpdddaa", sum := "a23dc751f1e9d19e1efc6fce700f9de68b8b7e949f6d7b9737944cbb6d73bacd", checked := Try.checked }
namespace Rows
def none {H : Type} : Left H := { results := [], args := [] }

/-- 'codexlaw03.ObjectCodes': WHATEVER THE INPUT: true; the input reads as it did. -/
def objectCodesSpec : ChangeSpec := { name := "objectCodes", fn := fun _ => fun
  | [d1, d2, d3] => { results := [.lit (.bool true)], args := [d1, d2, d3] }
  | _ => none }
def objectCodesRow : OpenClaim := { program := "ythmjkgpfnpdddaa", sum := "a23dc751f1e9d19e1efc6fce700f9de68b8b7e949f6d7b9737944cbb6d73bacd", func := "codex/codexlaw03.ObjectCodes", spec := "objectCodes", unfollowed := true, recurses := true, apart := false }
def ObjectCodesSaid : Prop := objectCodesRow.holds Try.pinned (OpenSpec.ofChange objectCodesSpec)

/-- ITS FALSE NEIGHBOUR: 'it returns false'. Refute it at one input. -/
def objectCodesWrong : ChangeSpec := { name := "objectCodes", fn := fun _ => fun
  | [d1, d2, d3] => { results := [.lit (.bool false)], args := [d1, d2, d3] }
  | _ => none }
def ObjectCodesWrongFalsely : Prop := objectCodesRow.holds Try.pinned (OpenSpec.ofChange objectCodesWrong)

/-- 'codexlaw03.ObjectBack': WHATEVER THE INPUT: true; the input reads as it did. -/
def objectBackSpec : ChangeSpec := { name := "objectBack", fn := fun _ => fun
  | [d1, d2] => { results := [.lit (.bool true)], args := [d1, d2] }
  | _ => none }
def objectBackRow : OpenClaim := { program := "ythmjkgpfnpdddaa", sum := "a23dc751f1e9d19e1efc6fce700f9de68b8b7e949f6d7b9737944cbb6d73bacd", func := "codex/codexlaw03.ObjectBack", spec := "objectBack", unfollowed := true, recurses := true, apart := false }
def ObjectBackSaid : Prop := objectBackRow.holds Try.pinned (OpenSpec.ofChange objectBackSpec)

/-- ITS FALSE NEIGHBOUR: 'it returns false'. Refute it at one input. -/
def objectBackWrong : ChangeSpec := { name := "objectBack", fn := fun _ => fun
  | [d1, d2] => { results := [.lit (.bool false)], args := [d1, d2] }
  | _ => none }
def ObjectBackWrongFalsely : Prop := objectBackRow.holds Try.pinned (OpenSpec.ofChange objectBackWrong)

/-- 'codexlaw03.ObjectTurns': WHATEVER THE INPUT: true; the input reads as it did. -/
def objectTurnsSpec : ChangeSpec := { name := "objectTurns", fn := fun _ => fun
  | [d1, d2, d3] => { results := [.lit (.bool true)], args := [d1, d2, d3] }
  | _ => none }
def objectTurnsRow : OpenClaim := { program := "ythmjkgpfnpdddaa", sum := "a23dc751f1e9d19e1efc6fce700f9de68b8b7e949f6d7b9737944cbb6d73bacd", func := "codex/codexlaw03.ObjectTurns", spec := "objectTurns", unfollowed := true, recurses := true, apart := false }
def ObjectTurnsSaid : Prop := objectTurnsRow.holds Try.pinned (OpenSpec.ofChange objectTurnsSpec)

/-- ITS FALSE NEIGHBOUR: 'it returns false'. Refute it at one input. -/
def objectTurnsWrong : ChangeSpec := { name := "objectTurns", fn := fun _ => fun
  | [d1, d2, d3] => { results := [.lit (.bool false)], args := [d1, d2, d3] }
  | _ => none }
def ObjectTurnsWrongFalsely : Prop := objectTurnsRow.holds Try.pinned (OpenSpec.ofChange objectTurnsWrong)

/-- 'codexlaw03.ObjectSizes': WHATEVER THE INPUT: true; the input reads as it did. -/
def objectSizesSpec : ChangeSpec := { name := "objectSizes", fn := fun _ => fun
  | [d1, d2] => { results := [.lit (.bool true)], args := [d1, d2] }
  | _ => none }
def objectSizesRow : OpenClaim := { program := "ythmjkgpfnpdddaa", sum := "a23dc751f1e9d19e1efc6fce700f9de68b8b7e949f6d7b9737944cbb6d73bacd", func := "codex/codexlaw03.ObjectSizes", spec := "objectSizes", unfollowed := true, recurses := true, apart := false }
def ObjectSizesSaid : Prop := objectSizesRow.holds Try.pinned (OpenSpec.ofChange objectSizesSpec)

/-- ITS FALSE NEIGHBOUR: 'it returns false'. Refute it at one input. -/
def objectSizesWrong : ChangeSpec := { name := "objectSizes", fn := fun _ => fun
  | [d1, d2] => { results := [.lit (.bool false)], args := [d1, d2] }
  | _ => none }
def ObjectSizesWrongFalsely : Prop := objectSizesRow.holds Try.pinned (OpenSpec.ofChange objectSizesWrong)

/-- 'codexlaw03.ObjectKinds': WHATEVER THE INPUT: true; the input reads as it did. -/
def objectKindsSpec : ChangeSpec := { name := "objectKinds", fn := fun _ => fun
  | [d1, d2, d3] => { results := [.lit (.bool true)], args := [d1, d2, d3] }
  | _ => none }
def objectKindsRow : OpenClaim := { program := "ythmjkgpfnpdddaa", sum := "a23dc751f1e9d19e1efc6fce700f9de68b8b7e949f6d7b9737944cbb6d73bacd", func := "codex/codexlaw03.ObjectKinds", spec := "objectKinds", unfollowed := true, recurses := true, apart := false }
def ObjectKindsSaid : Prop := objectKindsRow.holds Try.pinned (OpenSpec.ofChange objectKindsSpec)

/-- ITS FALSE NEIGHBOUR: 'it returns false'. Refute it at one input. -/
def objectKindsWrong : ChangeSpec := { name := "objectKinds", fn := fun _ => fun
  | [d1, d2, d3] => { results := [.lit (.bool false)], args := [d1, d2, d3] }
  | _ => none }
def ObjectKindsWrongFalsely : Prop := objectKindsRow.holds Try.pinned (OpenSpec.ofChange objectKindsWrong)

/-- 'codexlaw05.LeafCodes': WHATEVER THE INPUT: true; the input reads as it did. -/
def leafCodesSpec : ChangeSpec := { name := "leafCodes", fn := fun _ => fun
  | [d1, d2, d3] => { results := [.lit (.bool true)], args := [d1, d2, d3] }
  | _ => none }
def leafCodesRow : OpenClaim := { program := "ythmjkgpfnpdddaa", sum := "a23dc751f1e9d19e1efc6fce700f9de68b8b7e949f6d7b9737944cbb6d73bacd", func := "codex/codexlaw05.LeafCodes", spec := "leafCodes", inPlace := ["internal/bytealg.Compare"], unfollowed := true, recurses := true, apart := false }
def LeafCodesSaid : Prop := leafCodesRow.holds Try.pinned (OpenSpec.ofChange leafCodesSpec)

/-- ITS FALSE NEIGHBOUR: 'it returns false'. Refute it at one input. -/
def leafCodesWrong : ChangeSpec := { name := "leafCodes", fn := fun _ => fun
  | [d1, d2, d3] => { results := [.lit (.bool false)], args := [d1, d2, d3] }
  | _ => none }
def LeafCodesWrongFalsely : Prop := leafCodesRow.holds Try.pinned (OpenSpec.ofChange leafCodesWrong)

/-- 'codexlaw05.LeafBack': WHATEVER THE INPUT: true; the input reads as it did. -/
def leafBackSpec : ChangeSpec := { name := "leafBack", fn := fun _ => fun
  | [d1, d2, d3] => { results := [.lit (.bool true)], args := [d1, d2, d3] }
  | _ => none }
def leafBackRow : OpenClaim := { program := "ythmjkgpfnpdddaa", sum := "a23dc751f1e9d19e1efc6fce700f9de68b8b7e949f6d7b9737944cbb6d73bacd", func := "codex/codexlaw05.LeafBack", spec := "leafBack", inPlace := ["internal/bytealg.Compare"], unfollowed := true, recurses := true, apart := false }
def LeafBackSaid : Prop := leafBackRow.holds Try.pinned (OpenSpec.ofChange leafBackSpec)

/-- ITS FALSE NEIGHBOUR: 'it returns false'. Refute it at one input. -/
def leafBackWrong : ChangeSpec := { name := "leafBack", fn := fun _ => fun
  | [d1, d2, d3] => { results := [.lit (.bool false)], args := [d1, d2, d3] }
  | _ => none }
def LeafBackWrongFalsely : Prop := leafBackRow.holds Try.pinned (OpenSpec.ofChange leafBackWrong)

/-- 'codexlaw05.LeafPlaces': WHATEVER THE INPUT: true; the input reads as it did. -/
def leafPlacesSpec : ChangeSpec := { name := "leafPlaces", fn := fun _ => fun
  | [d1, d2] => { results := [.lit (.bool true)], args := [d1, d2] }
  | _ => none }
def leafPlacesRow : OpenClaim := { program := "ythmjkgpfnpdddaa", sum := "a23dc751f1e9d19e1efc6fce700f9de68b8b7e949f6d7b9737944cbb6d73bacd", func := "codex/codexlaw05.LeafPlaces", spec := "leafPlaces", inPlace := ["internal/bytealg.Compare"], unfollowed := true, recurses := true, apart := false }
def LeafPlacesSaid : Prop := leafPlacesRow.holds Try.pinned (OpenSpec.ofChange leafPlacesSpec)

/-- ITS FALSE NEIGHBOUR: 'it returns false'. Refute it at one input. -/
def leafPlacesWrong : ChangeSpec := { name := "leafPlaces", fn := fun _ => fun
  | [d1, d2] => { results := [.lit (.bool false)], args := [d1, d2] }
  | _ => none }
def LeafPlacesWrongFalsely : Prop := leafPlacesRow.holds Try.pinned (OpenSpec.ofChange leafPlacesWrong)

/-- 'codexlaw05.LeafTurns': WHATEVER THE INPUT: true; the input reads as it did. -/
def leafTurnsSpec : ChangeSpec := { name := "leafTurns", fn := fun _ => fun
  | [d1, d2, d3] => { results := [.lit (.bool true)], args := [d1, d2, d3] }
  | _ => none }
def leafTurnsRow : OpenClaim := { program := "ythmjkgpfnpdddaa", sum := "a23dc751f1e9d19e1efc6fce700f9de68b8b7e949f6d7b9737944cbb6d73bacd", func := "codex/codexlaw05.LeafTurns", spec := "leafTurns", inPlace := ["internal/bytealg.Compare"], unfollowed := true, recurses := true, apart := false }
def LeafTurnsSaid : Prop := leafTurnsRow.holds Try.pinned (OpenSpec.ofChange leafTurnsSpec)

/-- ITS FALSE NEIGHBOUR: 'it returns false'. Refute it at one input. -/
def leafTurnsWrong : ChangeSpec := { name := "leafTurns", fn := fun _ => fun
  | [d1, d2, d3] => { results := [.lit (.bool false)], args := [d1, d2, d3] }
  | _ => none }
def LeafTurnsWrongFalsely : Prop := leafTurnsRow.holds Try.pinned (OpenSpec.ofChange leafTurnsWrong)

/-- 'codexlaw05.LeafOrder': WHATEVER THE INPUT: true; the input reads as it did. -/
def leafOrderSpec : ChangeSpec := { name := "leafOrder", fn := fun _ => fun
  | [d] => { results := [.lit (.bool true)], args := [d] }
  | _ => none }
def leafOrderRow : OpenClaim := { program := "ythmjkgpfnpdddaa", sum := "a23dc751f1e9d19e1efc6fce700f9de68b8b7e949f6d7b9737944cbb6d73bacd", func := "codex/codexlaw05.LeafOrder", spec := "leafOrder", inPlace := ["internal/bytealg.Compare"], unfollowed := true, recurses := true, apart := false }
def LeafOrderSaid : Prop := leafOrderRow.holds Try.pinned (OpenSpec.ofChange leafOrderSpec)

/-- ITS FALSE NEIGHBOUR: 'it returns false'. Refute it at one input. -/
def leafOrderWrong : ChangeSpec := { name := "leafOrder", fn := fun _ => fun
  | [d] => { results := [.lit (.bool false)], args := [d] }
  | _ => none }
def LeafOrderWrongFalsely : Prop := leafOrderRow.holds Try.pinned (OpenSpec.ofChange leafOrderWrong)

/- THE SECOND FORM. 'bulk': how many values and letters a reading holds, each counted each time it is reached (what is shared counts as often as it is met; a slice's spare places count too). A statement '..UptoSaid' is the law's where the arguments, and the package variables that the reading takes, are together of bulk at most 1048576: NARROWER than '..Said'. Prove '..Said' where nothing that the law and all that it calls make is longer than what came in: it says more and counts as full. Else prove '..UptoSaid'. A law counts once. -/
mutual
def uptoBulk {H : Type} : DataW H → Nat
  | .lit (.string bytes) => bytes.length + 1
  | .lit _ => 1
  | .nil => 1
  | .ptr d => uptoBulk d + 1
  | .slice elems spare => uptoBulkAll elems + uptoBulkAll spare + 1
  | .agg parts => uptoBulkAll parts + 1
  | .iface _ d => uptoBulk d + 1
  | .map entries => uptoBulkEntries entries + 1
  | .held _ => 1
def uptoBulkAll {H : Type} : List (DataW H) → Nat
  | [] => 0
  | d :: r => uptoBulk d + uptoBulkAll r
def uptoBulkEntries {H : Type} : List (Lit × DataW H) → Nat
  | [] => 0
  | x :: r => uptoBulkEntry x + uptoBulkEntries r
def uptoBulkEntry {H : Type} : Lit × DataW H → Nat
  | (.string bytes, d) => bytes.length + uptoBulk d + 1
  | (_, d) => uptoBulk d + 1
 end
def uptoSmall : (H : Type) → List (DataW H) → Bool := fun _ ds => decide (uptoBulkAll ds ≤ 1048576)
def OpenSpec.upto (s : _root_.Go.ChangeSpec) : _root_.Go.OpenSpec := { _root_.Go.OpenSpec.ofChange s with cond := some uptoSmall }

/-- 'codexlaw03.ObjectCodes', WHERE WHAT IT READS IS OF BULK AT MOST 1048576: true; the input reads as it did. -/
def objectCodesUptoRow : OpenClaim := { program := "ythmjkgpfnpdddaa", sum := "a23dc751f1e9d19e1efc6fce700f9de68b8b7e949f6d7b9737944cbb6d73bacd", func := "codex/codexlaw03.ObjectCodes", spec := "objectCodes", unfollowed := true, recurses := true, apart := false, narrowed := true }
def ObjectCodesUptoSaid : Prop := objectCodesUptoRow.holds Try.pinned (OpenSpec.upto objectCodesSpec)

/-- 'codexlaw03.ObjectBack', WHERE WHAT IT READS IS OF BULK AT MOST 1048576: true; the input reads as it did. -/
def objectBackUptoRow : OpenClaim := { program := "ythmjkgpfnpdddaa", sum := "a23dc751f1e9d19e1efc6fce700f9de68b8b7e949f6d7b9737944cbb6d73bacd", func := "codex/codexlaw03.ObjectBack", spec := "objectBack", unfollowed := true, recurses := true, apart := false, narrowed := true }
def ObjectBackUptoSaid : Prop := objectBackUptoRow.holds Try.pinned (OpenSpec.upto objectBackSpec)

/-- 'codexlaw03.ObjectTurns', WHERE WHAT IT READS IS OF BULK AT MOST 1048576: true; the input reads as it did. -/
def objectTurnsUptoRow : OpenClaim := { program := "ythmjkgpfnpdddaa", sum := "a23dc751f1e9d19e1efc6fce700f9de68b8b7e949f6d7b9737944cbb6d73bacd", func := "codex/codexlaw03.ObjectTurns", spec := "objectTurns", unfollowed := true, recurses := true, apart := false, narrowed := true }
def ObjectTurnsUptoSaid : Prop := objectTurnsUptoRow.holds Try.pinned (OpenSpec.upto objectTurnsSpec)

/-- 'codexlaw03.ObjectSizes', WHERE WHAT IT READS IS OF BULK AT MOST 1048576: true; the input reads as it did. -/
def objectSizesUptoRow : OpenClaim := { program := "ythmjkgpfnpdddaa", sum := "a23dc751f1e9d19e1efc6fce700f9de68b8b7e949f6d7b9737944cbb6d73bacd", func := "codex/codexlaw03.ObjectSizes", spec := "objectSizes", unfollowed := true, recurses := true, apart := false, narrowed := true }
def ObjectSizesUptoSaid : Prop := objectSizesUptoRow.holds Try.pinned (OpenSpec.upto objectSizesSpec)

/-- 'codexlaw03.ObjectKinds', WHERE WHAT IT READS IS OF BULK AT MOST 1048576: true; the input reads as it did. -/
def objectKindsUptoRow : OpenClaim := { program := "ythmjkgpfnpdddaa", sum := "a23dc751f1e9d19e1efc6fce700f9de68b8b7e949f6d7b9737944cbb6d73bacd", func := "codex/codexlaw03.ObjectKinds", spec := "objectKinds", unfollowed := true, recurses := true, apart := false, narrowed := true }
def ObjectKindsUptoSaid : Prop := objectKindsUptoRow.holds Try.pinned (OpenSpec.upto objectKindsSpec)

/-- 'codexlaw05.LeafCodes', WHERE WHAT IT READS IS OF BULK AT MOST 1048576: true; the input reads as it did. -/
def leafCodesUptoRow : OpenClaim := { program := "ythmjkgpfnpdddaa", sum := "a23dc751f1e9d19e1efc6fce700f9de68b8b7e949f6d7b9737944cbb6d73bacd", func := "codex/codexlaw05.LeafCodes", spec := "leafCodes", inPlace := ["internal/bytealg.Compare"], unfollowed := true, recurses := true, apart := false, narrowed := true }
def LeafCodesUptoSaid : Prop := leafCodesUptoRow.holds Try.pinned (OpenSpec.upto leafCodesSpec)

/-- 'codexlaw05.LeafBack', WHERE WHAT IT READS IS OF BULK AT MOST 1048576: true; the input reads as it did. -/
def leafBackUptoRow : OpenClaim := { program := "ythmjkgpfnpdddaa", sum := "a23dc751f1e9d19e1efc6fce700f9de68b8b7e949f6d7b9737944cbb6d73bacd", func := "codex/codexlaw05.LeafBack", spec := "leafBack", inPlace := ["internal/bytealg.Compare"], unfollowed := true, recurses := true, apart := false, narrowed := true }
def LeafBackUptoSaid : Prop := leafBackUptoRow.holds Try.pinned (OpenSpec.upto leafBackSpec)

/-- 'codexlaw05.LeafPlaces', WHERE WHAT IT READS IS OF BULK AT MOST 1048576: true; the input reads as it did. -/
def leafPlacesUptoRow : OpenClaim := { program := "ythmjkgpfnpdddaa", sum := "a23dc751f1e9d19e1efc6fce700f9de68b8b7e949f6d7b9737944cbb6d73bacd", func := "codex/codexlaw05.LeafPlaces", spec := "leafPlaces", inPlace := ["internal/bytealg.Compare"], unfollowed := true, recurses := true, apart := false, narrowed := true }
def LeafPlacesUptoSaid : Prop := leafPlacesUptoRow.holds Try.pinned (OpenSpec.upto leafPlacesSpec)

/-- 'codexlaw05.LeafTurns', WHERE WHAT IT READS IS OF BULK AT MOST 1048576: true; the input reads as it did. -/
def leafTurnsUptoRow : OpenClaim := { program := "ythmjkgpfnpdddaa", sum := "a23dc751f1e9d19e1efc6fce700f9de68b8b7e949f6d7b9737944cbb6d73bacd", func := "codex/codexlaw05.LeafTurns", spec := "leafTurns", inPlace := ["internal/bytealg.Compare"], unfollowed := true, recurses := true, apart := false, narrowed := true }
def LeafTurnsUptoSaid : Prop := leafTurnsUptoRow.holds Try.pinned (OpenSpec.upto leafTurnsSpec)

/-- 'codexlaw05.LeafOrder', WHERE WHAT IT READS IS OF BULK AT MOST 1048576: true; the input reads as it did. -/
def leafOrderUptoRow : OpenClaim := { program := "ythmjkgpfnpdddaa", sum := "a23dc751f1e9d19e1efc6fce700f9de68b8b7e949f6d7b9737944cbb6d73bacd", func := "codex/codexlaw05.LeafOrder", spec := "leafOrder", inPlace := ["internal/bytealg.Compare"], unfollowed := true, recurses := true, apart := false, narrowed := true }
def LeafOrderUptoSaid : Prop := leafOrderUptoRow.holds Try.pinned (OpenSpec.upto leafOrderSpec)

end Rows
end Go.Proofs.Ythmjkgpfnpdddaa
