/-
  No cell of these rows narrows 'for every input' (looked for: loops, veiled, ifaces, maps, wideKeys, modest, calm, conditions, laid).
  DERIVED. THE GIVEN ROWS OF THIS SEAT. 5 by the template 'for every input the law returns true; each argument reads behind the call as it read before'; 0 by the template 'total and deterministic' (their statements: YtdnpcplboohdpaaTotals.lean).
  GIVEN WITH THE SEED: the statements are not yours to turn. If you find one false, say at which input.
  Laid BY PROGRAM, IN A SANDBOX (cutbox-rows.mjs): the forced cells as the released guide's own fill.sh prints them over the translation 0c29af36fde5976e… (all of the seat's roots in one cut). By AI agents, Wed Nov 11 2026. No macro, syntax, notation, axiom, sorry.
-/
import Derived.Test.YtdnpcplboohdpaaChecked
import GoSem.Claim
import GoSem.ClaimJoined
import GoSem.ClaimMapViews
import Derived.JoinedTies
import Derived.KernelRfl
namespace Go.Proofs.Ytdnpcplboohdpaa
/- THE CELL 'sum', in the pinned program and in every row, IS THE sha256 OF THE DUMP (.gsa) THAT YtdnpcplboohdpaaProg.lean LOADS. Nothing in Lean hashes anything: it is a label: what it is worth is what the hold of that sum in a sandbox is worth. -/
noncomputable def Try.pinned : Pinned := { name := "ytdnpcplboohdpaa", sum := "0c29af36fde5976eac5427b124444e22b366ff001fd0ed38a7cb4e4e68b9fe99", checked := Try.checked }
namespace Rows
def none {H : Type} : Left H := { results := [], args := [] }

/-- 'codexlaw20.PagesTell': WHATEVER THE INPUT: true; the input reads as it did. -/
def pagesTellSpec : ChangeSpec := { name := "pagesTell", fn := fun _ => fun
  | [d1, d2] => { results := [.lit (.bool true)], args := [d1, d2] }
  | _ => none }
def pagesTellRow : OpenClaim := { program := "ytdnpcplboohdpaa", sum := "0c29af36fde5976eac5427b124444e22b366ff001fd0ed38a7cb4e4e68b9fe99", func := "codex/codexlaw20.PagesTell", spec := "pagesTell", unfollowed := true, recurses := true, apart := false }
def PagesTellSaid : Prop := pagesTellRow.holds Try.pinned (OpenSpec.ofChange pagesTellSpec)

/-- ITS FALSE NEIGHBOUR: 'it returns false'. Refute it at one input. -/
def pagesTellWrong : ChangeSpec := { name := "pagesTell", fn := fun _ => fun
  | [d1, d2] => { results := [.lit (.bool false)], args := [d1, d2] }
  | _ => none }
def PagesTellWrongFalsely : Prop := pagesTellRow.holds Try.pinned (OpenSpec.ofChange pagesTellWrong)

/-- 'codexlaw20.PagesLeast': WHATEVER THE INPUT: true; the input reads as it did. -/
def pagesLeastSpec : ChangeSpec := { name := "pagesLeast", fn := fun _ => fun
  | [d1, d2] => { results := [.lit (.bool true)], args := [d1, d2] }
  | _ => none }
def pagesLeastRow : OpenClaim := { program := "ytdnpcplboohdpaa", sum := "0c29af36fde5976eac5427b124444e22b366ff001fd0ed38a7cb4e4e68b9fe99", func := "codex/codexlaw20.PagesLeast", spec := "pagesLeast", unfollowed := true, recurses := true, apart := false }
def PagesLeastSaid : Prop := pagesLeastRow.holds Try.pinned (OpenSpec.ofChange pagesLeastSpec)

/-- ITS FALSE NEIGHBOUR: 'it returns false'. Refute it at one input. -/
def pagesLeastWrong : ChangeSpec := { name := "pagesLeast", fn := fun _ => fun
  | [d1, d2] => { results := [.lit (.bool false)], args := [d1, d2] }
  | _ => none }
def PagesLeastWrongFalsely : Prop := pagesLeastRow.holds Try.pinned (OpenSpec.ofChange pagesLeastWrong)

/-- 'codexlaw20.PagesCover': WHATEVER THE INPUT: true; the input reads as it did. -/
def pagesCoverSpec : ChangeSpec := { name := "pagesCover", fn := fun _ => fun
  | [d1, d2] => { results := [.lit (.bool true)], args := [d1, d2] }
  | _ => none }
def pagesCoverRow : OpenClaim := { program := "ytdnpcplboohdpaa", sum := "0c29af36fde5976eac5427b124444e22b366ff001fd0ed38a7cb4e4e68b9fe99", func := "codex/codexlaw20.PagesCover", spec := "pagesCover", unfollowed := true, recurses := true, apart := false }
def PagesCoverSaid : Prop := pagesCoverRow.holds Try.pinned (OpenSpec.ofChange pagesCoverSpec)

/-- ITS FALSE NEIGHBOUR: 'it returns false'. Refute it at one input. -/
def pagesCoverWrong : ChangeSpec := { name := "pagesCover", fn := fun _ => fun
  | [d1, d2] => { results := [.lit (.bool false)], args := [d1, d2] }
  | _ => none }
def PagesCoverWrongFalsely : Prop := pagesCoverRow.holds Try.pinned (OpenSpec.ofChange pagesCoverWrong)

/-- 'codexlaw20.PagesCosts': WHATEVER THE INPUT: true; the input reads as it did. -/
def pagesCostsSpec : ChangeSpec := { name := "pagesCosts", fn := fun _ => fun
  | [d1, d2, d3] => { results := [.lit (.bool true)], args := [d1, d2, d3] }
  | _ => none }
def pagesCostsRow : OpenClaim := { program := "ytdnpcplboohdpaa", sum := "0c29af36fde5976eac5427b124444e22b366ff001fd0ed38a7cb4e4e68b9fe99", func := "codex/codexlaw20.PagesCosts", spec := "pagesCosts", unfollowed := true, recurses := true, apart := false }
def PagesCostsSaid : Prop := pagesCostsRow.holds Try.pinned (OpenSpec.ofChange pagesCostsSpec)

/-- ITS FALSE NEIGHBOUR: 'it returns false'. Refute it at one input. -/
def pagesCostsWrong : ChangeSpec := { name := "pagesCosts", fn := fun _ => fun
  | [d1, d2, d3] => { results := [.lit (.bool false)], args := [d1, d2, d3] }
  | _ => none }
def PagesCostsWrongFalsely : Prop := pagesCostsRow.holds Try.pinned (OpenSpec.ofChange pagesCostsWrong)

/-- 'codexlaw20.PagesApart': WHATEVER THE INPUT: true; the input reads as it did. -/
def pagesApartSpec : ChangeSpec := { name := "pagesApart", fn := fun _ => fun
  | [d1, d2, d3] => { results := [.lit (.bool true)], args := [d1, d2, d3] }
  | _ => none }
def pagesApartRow : OpenClaim := { program := "ytdnpcplboohdpaa", sum := "0c29af36fde5976eac5427b124444e22b366ff001fd0ed38a7cb4e4e68b9fe99", func := "codex/codexlaw20.PagesApart", spec := "pagesApart", unfollowed := true, recurses := true, apart := false }
def PagesApartSaid : Prop := pagesApartRow.holds Try.pinned (OpenSpec.ofChange pagesApartSpec)

/-- ITS FALSE NEIGHBOUR: 'it returns false'. Refute it at one input. -/
def pagesApartWrong : ChangeSpec := { name := "pagesApart", fn := fun _ => fun
  | [d1, d2, d3] => { results := [.lit (.bool false)], args := [d1, d2, d3] }
  | _ => none }
def PagesApartWrongFalsely : Prop := pagesApartRow.holds Try.pinned (OpenSpec.ofChange pagesApartWrong)

/- THE SECOND FORM. 'bulk': how many values and letters a reading holds, each counted each time it is reached (what is shared counts as often as it is met; a slice's spare places count too). A statement '..UptoSaid' is the law's where the arguments, and the package variables that the reading takes, are together of bulk at most 1048576: NARROWER than '..Said'. Prove '..Said' where nothing that the law and all that it calls make is longer than what came in: it says more and counts as full. Else prove '..UptoSaid'. A law counts once. -/
mutual
def uptoBulk {H : Type} : DataW H → Nat
  | .lit (.string bytes) => bytes.length + 1
  | .lit _ => 1
  | .nil => 1
  | .ptr d => uptoBulk d + 1
  | .slice elems spare => uptoBulkAll elems + uptoBulkAll spare + 1
  | .agg parts => uptoBulkAll parts + 1
  | .iface _ d => uptoBulk d + 1
  | .map entries => uptoBulkEntries entries + 1
  | .held _ => 1
def uptoBulkAll {H : Type} : List (DataW H) → Nat
  | [] => 0
  | d :: r => uptoBulk d + uptoBulkAll r
def uptoBulkEntries {H : Type} : List (Lit × DataW H) → Nat
  | [] => 0
  | x :: r => uptoBulkEntry x + uptoBulkEntries r
def uptoBulkEntry {H : Type} : Lit × DataW H → Nat
  | (.string bytes, d) => bytes.length + uptoBulk d + 1
  | (_, d) => uptoBulk d + 1
 end
def uptoSmall : (H : Type) → List (DataW H) → Bool := fun _ ds => decide (uptoBulkAll ds ≤ 1048576)
def OpenSpec.upto (s : _root_.Go.ChangeSpec) : _root_.Go.OpenSpec := { _root_.Go.OpenSpec.ofChange s with cond := some uptoSmall }

/-- 'codexlaw20.PagesTell', WHERE WHAT IT READS IS OF BULK AT MOST 1048576: true; the input reads as it did. -/
def pagesTellUptoRow : OpenClaim := { program := "ytdnpcplboohdpaa", sum := "0c29af36fde5976eac5427b124444e22b366ff001fd0ed38a7cb4e4e68b9fe99", func := "codex/codexlaw20.PagesTell", spec := "pagesTell", unfollowed := true, recurses := true, apart := false, narrowed := true }
def PagesTellUptoSaid : Prop := pagesTellUptoRow.holds Try.pinned (OpenSpec.upto pagesTellSpec)

/-- 'codexlaw20.PagesLeast', WHERE WHAT IT READS IS OF BULK AT MOST 1048576: true; the input reads as it did. -/
def pagesLeastUptoRow : OpenClaim := { program := "ytdnpcplboohdpaa", sum := "0c29af36fde5976eac5427b124444e22b366ff001fd0ed38a7cb4e4e68b9fe99", func := "codex/codexlaw20.PagesLeast", spec := "pagesLeast", unfollowed := true, recurses := true, apart := false, narrowed := true }
def PagesLeastUptoSaid : Prop := pagesLeastUptoRow.holds Try.pinned (OpenSpec.upto pagesLeastSpec)

/-- 'codexlaw20.PagesCover', WHERE WHAT IT READS IS OF BULK AT MOST 1048576: true; the input reads as it did. -/
def pagesCoverUptoRow : OpenClaim := { program := "ytdnpcplboohdpaa", sum := "0c29af36fde5976eac5427b124444e22b366ff001fd0ed38a7cb4e4e68b9fe99", func := "codex/codexlaw20.PagesCover", spec := "pagesCover", unfollowed := true, recurses := true, apart := false, narrowed := true }
def PagesCoverUptoSaid : Prop := pagesCoverUptoRow.holds Try.pinned (OpenSpec.upto pagesCoverSpec)

/-- 'codexlaw20.PagesCosts', WHERE WHAT IT READS IS OF BULK AT MOST 1048576: true; the input reads as it did. -/
def pagesCostsUptoRow : OpenClaim := { program := "ytdnpcplboohdpaa", sum := "0c29af36fde5976eac5427b124444e22b366ff001fd0ed38a7cb4e4e68b9fe99", func := "codex/codexlaw20.PagesCosts", spec := "pagesCosts", unfollowed := true, recurses := true, apart := false, narrowed := true }
def PagesCostsUptoSaid : Prop := pagesCostsUptoRow.holds Try.pinned (OpenSpec.upto pagesCostsSpec)

/-- 'codexlaw20.PagesApart', WHERE WHAT IT READS IS OF BULK AT MOST 1048576: true; the input reads as it did. -/
def pagesApartUptoRow : OpenClaim := { program := "ytdnpcplboohdpaa", sum := "0c29af36fde5976eac5427b124444e22b366ff001fd0ed38a7cb4e4e68b9fe99", func := "codex/codexlaw20.PagesApart", spec := "pagesApart", unfollowed := true, recurses := true, apart := false, narrowed := true }
def PagesApartUptoSaid : Prop := pagesApartUptoRow.holds Try.pinned (OpenSpec.upto pagesApartSpec)

end Rows
end Go.Proofs.Ytdnpcplboohdpaa
