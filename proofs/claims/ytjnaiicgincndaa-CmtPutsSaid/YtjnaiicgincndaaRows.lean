/-
  No cell of these rows narrows 'for every input' (looked for: loops, veiled, ifaces, maps, wideKeys, modest, calm, conditions, laid).
  DERIVED. THE GIVEN ROWS OF THIS SEAT. 10 by the template 'for every input the law returns true; each argument reads behind the call as it read before'; 0 by the template 'total and deterministic' (their statements: YtjnaiicgincndaaTotals.lean).
  GIVEN WITH THE SEED: the statements are not yours to turn. If you find one false, say at which input.
  Laid BY PROGRAM, IN A SANDBOX (cutbox-rows.mjs): the forced cells as the released guide's own fill.sh prints them over the translation faad67176d2f008f… (all of the seat's roots in one cut). By AI agents, Wed Nov 11 2026. No macro, syntax, notation, axiom, sorry.
-/
import Derived.Test.YtjnaiicgincndaaChecked
import GoSem.Claim
import GoSem.ClaimJoined
import GoSem.ClaimMapViews
import Derived.JoinedTies
import Derived.KernelRfl
namespace Go.Proofs.Ytjnaiicgincndaa
/- THE CELL 'sum', in the pinned program and in every row, IS THE sha256 OF THE DUMP (.gsa) THAT YtjnaiicgincndaaProg.lean LOADS. Nothing in Lean hashes anything: it is a label: what it is worth is what the hold of that sum in a sandbox is worth. -/
noncomputable def Try.pinned : Pinned := { name := "ytjnaiicgincndaa", sum := "faad67176d2f008f90b06610724a41c0a07571c8797694485ab3c4285ff343d0", checked := Try.checked }
namespace Rows
def none {H : Type} : Left H := { results := [], args := [] }

/-- 'tabulariumlaw12.CmtReads': WHATEVER THE INPUT: true; the input reads as it did. -/
def cmtReadsSpec : ChangeSpec := { name := "cmtReads", fn := fun _ => fun
  | [d] => { results := [.lit (.bool true)], args := [d] }
  | _ => none }
def cmtReadsRow : OpenClaim := { program := "ytjnaiicgincndaa", sum := "faad67176d2f008f90b06610724a41c0a07571c8797694485ab3c4285ff343d0", func := "tabularium/tabulariumlaw12.CmtReads", spec := "cmtReads", unfollowed := true, recurses := true, apart := false }
def CmtReadsSaid : Prop := cmtReadsRow.holds Try.pinned (OpenSpec.ofChange cmtReadsSpec)

/-- ITS FALSE NEIGHBOUR: 'it returns false'. Refute it at one input. -/
def cmtReadsWrong : ChangeSpec := { name := "cmtReads", fn := fun _ => fun
  | [d] => { results := [.lit (.bool false)], args := [d] }
  | _ => none }
def CmtReadsWrongFalsely : Prop := cmtReadsRow.holds Try.pinned (OpenSpec.ofChange cmtReadsWrong)

/-- 'tabulariumlaw12.CmtBack': WHATEVER THE INPUT: true; the input reads as it did. -/
def cmtBackSpec : ChangeSpec := { name := "cmtBack", fn := fun _ => fun
  | [d1, d2] => { results := [.lit (.bool true)], args := [d1, d2] }
  | _ => none }
def cmtBackRow : OpenClaim := { program := "ytjnaiicgincndaa", sum := "faad67176d2f008f90b06610724a41c0a07571c8797694485ab3c4285ff343d0", func := "tabularium/tabulariumlaw12.CmtBack", spec := "cmtBack", unfollowed := true, recurses := true, apart := false }
def CmtBackSaid : Prop := cmtBackRow.holds Try.pinned (OpenSpec.ofChange cmtBackSpec)

/-- ITS FALSE NEIGHBOUR: 'it returns false'. Refute it at one input. -/
def cmtBackWrong : ChangeSpec := { name := "cmtBack", fn := fun _ => fun
  | [d1, d2] => { results := [.lit (.bool false)], args := [d1, d2] }
  | _ => none }
def CmtBackWrongFalsely : Prop := cmtBackRow.holds Try.pinned (OpenSpec.ofChange cmtBackWrong)

/-- 'tabulariumlaw12.CmtPuts': WHATEVER THE INPUT: true; the input reads as it did. -/
def cmtPutsSpec : ChangeSpec := { name := "cmtPuts", fn := fun _ => fun
  | [d] => { results := [.lit (.bool true)], args := [d] }
  | _ => none }
def cmtPutsRow : OpenClaim := { program := "ytjnaiicgincndaa", sum := "faad67176d2f008f90b06610724a41c0a07571c8797694485ab3c4285ff343d0", func := "tabularium/tabulariumlaw12.CmtPuts", spec := "cmtPuts", inPlace := ["internal/bytealg.Compare"], unfollowed := true, recurses := true, apart := false }
def CmtPutsSaid : Prop := cmtPutsRow.holds Try.pinned (OpenSpec.ofChange cmtPutsSpec)

/-- ITS FALSE NEIGHBOUR: 'it returns false'. Refute it at one input. -/
def cmtPutsWrong : ChangeSpec := { name := "cmtPuts", fn := fun _ => fun
  | [d] => { results := [.lit (.bool false)], args := [d] }
  | _ => none }
def CmtPutsWrongFalsely : Prop := cmtPutsRow.holds Try.pinned (OpenSpec.ofChange cmtPutsWrong)

/-- 'tabulariumlaw09.EnvelReads': WHATEVER THE INPUT: true; the input reads as it did. -/
def envelReadsSpec : ChangeSpec := { name := "envelReads", fn := fun _ => fun
  | [d] => { results := [.lit (.bool true)], args := [d] }
  | _ => none }
def envelReadsRow : OpenClaim := { program := "ytjnaiicgincndaa", sum := "faad67176d2f008f90b06610724a41c0a07571c8797694485ab3c4285ff343d0", func := "tabularium/tabulariumlaw09.EnvelReads", spec := "envelReads", inPlace := ["internal/bytealg.Compare"], unfollowed := true, recurses := true, apart := false }
def EnvelReadsSaid : Prop := envelReadsRow.holds Try.pinned (OpenSpec.ofChange envelReadsSpec)

/-- ITS FALSE NEIGHBOUR: 'it returns false'. Refute it at one input. -/
def envelReadsWrong : ChangeSpec := { name := "envelReads", fn := fun _ => fun
  | [d] => { results := [.lit (.bool false)], args := [d] }
  | _ => none }
def EnvelReadsWrongFalsely : Prop := envelReadsRow.holds Try.pinned (OpenSpec.ofChange envelReadsWrong)

/-- 'tabulariumlaw09.EnvelBack': WHATEVER THE INPUT: true; the input reads as it did. -/
def envelBackSpec : ChangeSpec := { name := "envelBack", fn := fun _ => fun
  | [d1, d2] => { results := [.lit (.bool true)], args := [d1, d2] }
  | _ => none }
def envelBackRow : OpenClaim := { program := "ytjnaiicgincndaa", sum := "faad67176d2f008f90b06610724a41c0a07571c8797694485ab3c4285ff343d0", func := "tabularium/tabulariumlaw09.EnvelBack", spec := "envelBack", inPlace := ["internal/bytealg.Compare"], unfollowed := true, recurses := true, apart := false }
def EnvelBackSaid : Prop := envelBackRow.holds Try.pinned (OpenSpec.ofChange envelBackSpec)

/-- ITS FALSE NEIGHBOUR: 'it returns false'. Refute it at one input. -/
def envelBackWrong : ChangeSpec := { name := "envelBack", fn := fun _ => fun
  | [d1, d2] => { results := [.lit (.bool false)], args := [d1, d2] }
  | _ => none }
def EnvelBackWrongFalsely : Prop := envelBackRow.holds Try.pinned (OpenSpec.ofChange envelBackWrong)

/-- 'tabulariumlaw09.EnvelLinks': WHATEVER THE INPUT: true; the input reads as it did. -/
def envelLinksSpec : ChangeSpec := { name := "envelLinks", fn := fun _ => fun
  | [d] => { results := [.lit (.bool true)], args := [d] }
  | _ => none }
def envelLinksRow : OpenClaim := { program := "ytjnaiicgincndaa", sum := "faad67176d2f008f90b06610724a41c0a07571c8797694485ab3c4285ff343d0", func := "tabularium/tabulariumlaw09.EnvelLinks", spec := "envelLinks", inPlace := ["internal/bytealg.Compare"], unfollowed := true, recurses := true, apart := false }
def EnvelLinksSaid : Prop := envelLinksRow.holds Try.pinned (OpenSpec.ofChange envelLinksSpec)

/-- ITS FALSE NEIGHBOUR: 'it returns false'. Refute it at one input. -/
def envelLinksWrong : ChangeSpec := { name := "envelLinks", fn := fun _ => fun
  | [d] => { results := [.lit (.bool false)], args := [d] }
  | _ => none }
def EnvelLinksWrongFalsely : Prop := envelLinksRow.holds Try.pinned (OpenSpec.ofChange envelLinksWrong)

/-- 'tabulariumlaw11.DirReads': WHATEVER THE INPUT: true; the input reads as it did. -/
def dirReadsSpec : ChangeSpec := { name := "dirReads", fn := fun _ => fun
  | [d] => { results := [.lit (.bool true)], args := [d] }
  | _ => none }
def dirReadsRow : OpenClaim := { program := "ytjnaiicgincndaa", sum := "faad67176d2f008f90b06610724a41c0a07571c8797694485ab3c4285ff343d0", func := "tabularium/tabulariumlaw11.DirReads", spec := "dirReads", inPlace := ["internal/bytealg.Compare"], apart := false }
def DirReadsSaid : Prop := dirReadsRow.holds Try.pinned (OpenSpec.ofChange dirReadsSpec)

/-- ITS FALSE NEIGHBOUR: 'it returns false'. Refute it at one input. -/
def dirReadsWrong : ChangeSpec := { name := "dirReads", fn := fun _ => fun
  | [d] => { results := [.lit (.bool false)], args := [d] }
  | _ => none }
def DirReadsWrongFalsely : Prop := dirReadsRow.holds Try.pinned (OpenSpec.ofChange dirReadsWrong)

/-- 'tabulariumlaw11.DirBack': WHATEVER THE INPUT: true; the input reads as it did. -/
def dirBackSpec : ChangeSpec := { name := "dirBack", fn := fun _ => fun
  | [d1, d2] => { results := [.lit (.bool true)], args := [d1, d2] }
  | _ => none }
def dirBackRow : OpenClaim := { program := "ytjnaiicgincndaa", sum := "faad67176d2f008f90b06610724a41c0a07571c8797694485ab3c4285ff343d0", func := "tabularium/tabulariumlaw11.DirBack", spec := "dirBack", inPlace := ["internal/bytealg.Compare"], apart := false }
def DirBackSaid : Prop := dirBackRow.holds Try.pinned (OpenSpec.ofChange dirBackSpec)

/-- ITS FALSE NEIGHBOUR: 'it returns false'. Refute it at one input. -/
def dirBackWrong : ChangeSpec := { name := "dirBack", fn := fun _ => fun
  | [d1, d2] => { results := [.lit (.bool false)], args := [d1, d2] }
  | _ => none }
def DirBackWrongFalsely : Prop := dirBackRow.holds Try.pinned (OpenSpec.ofChange dirBackWrong)

/-- 'tabulariumlaw11.DirStays': WHATEVER THE INPUT: true; the input reads as it did. -/
def dirStaysSpec : ChangeSpec := { name := "dirStays", fn := fun _ => fun
  | [d1, d2, d3] => { results := [.lit (.bool true)], args := [d1, d2, d3] }
  | _ => none }
def dirStaysRow : OpenClaim := { program := "ytjnaiicgincndaa", sum := "faad67176d2f008f90b06610724a41c0a07571c8797694485ab3c4285ff343d0", func := "tabularium/tabulariumlaw11.DirStays", spec := "dirStays", inPlace := ["internal/bytealg.Compare", "slices.overlaps[tabularium/api.Entry]"], unfollowed := true, recurses := true, apart := false }
def DirStaysSaid : Prop := dirStaysRow.holds Try.pinned (OpenSpec.ofChange dirStaysSpec)

/-- ITS FALSE NEIGHBOUR: 'it returns false'. Refute it at one input. -/
def dirStaysWrong : ChangeSpec := { name := "dirStays", fn := fun _ => fun
  | [d1, d2, d3] => { results := [.lit (.bool false)], args := [d1, d2, d3] }
  | _ => none }
def DirStaysWrongFalsely : Prop := dirStaysRow.holds Try.pinned (OpenSpec.ofChange dirStaysWrong)

/-- 'tabulariumlaw11.DirChanges': WHATEVER THE INPUT: true; the input reads as it did. -/
def dirChangesSpec : ChangeSpec := { name := "dirChanges", fn := fun _ => fun
  | [d1, d2, d3, d4] => { results := [.lit (.bool true)], args := [d1, d2, d3, d4] }
  | _ => none }
def dirChangesRow : OpenClaim := { program := "ytjnaiicgincndaa", sum := "faad67176d2f008f90b06610724a41c0a07571c8797694485ab3c4285ff343d0", func := "tabularium/tabulariumlaw11.DirChanges", spec := "dirChanges", inPlace := ["internal/bytealg.Compare", "slices.overlaps[tabularium/api.Entry]"], unfollowed := true, recurses := true, apart := false }
def DirChangesSaid : Prop := dirChangesRow.holds Try.pinned (OpenSpec.ofChange dirChangesSpec)

/-- ITS FALSE NEIGHBOUR: 'it returns false'. Refute it at one input. -/
def dirChangesWrong : ChangeSpec := { name := "dirChanges", fn := fun _ => fun
  | [d1, d2, d3, d4] => { results := [.lit (.bool false)], args := [d1, d2, d3, d4] }
  | _ => none }
def DirChangesWrongFalsely : Prop := dirChangesRow.holds Try.pinned (OpenSpec.ofChange dirChangesWrong)

/- THE SECOND FORM. 'bulk': how many values and letters a reading holds, each counted each time it is reached (what is shared counts as often as it is met; a slice's spare places count too). A statement '..UptoSaid' is the law's where the arguments, and the package variables that the reading takes, are together of bulk at most 1048576: NARROWER than '..Said'. Prove '..Said' where nothing that the law and all that it calls make is longer than what came in: it says more and counts as full. Else prove '..UptoSaid'. A law counts once. -/
mutual
def uptoBulk {H : Type} : DataW H → Nat
  | .lit (.string bytes) => bytes.length + 1
  | .lit _ => 1
  | .nil => 1
  | .ptr d => uptoBulk d + 1
  | .slice elems spare => uptoBulkAll elems + uptoBulkAll spare + 1
  | .agg parts => uptoBulkAll parts + 1
  | .iface _ d => uptoBulk d + 1
  | .map entries => uptoBulkEntries entries + 1
  | .held _ => 1
def uptoBulkAll {H : Type} : List (DataW H) → Nat
  | [] => 0
  | d :: r => uptoBulk d + uptoBulkAll r
def uptoBulkEntries {H : Type} : List (Lit × DataW H) → Nat
  | [] => 0
  | x :: r => uptoBulkEntry x + uptoBulkEntries r
def uptoBulkEntry {H : Type} : Lit × DataW H → Nat
  | (.string bytes, d) => bytes.length + uptoBulk d + 1
  | (_, d) => uptoBulk d + 1
 end
def uptoSmall : (H : Type) → List (DataW H) → Bool := fun _ ds => decide (uptoBulkAll ds ≤ 1048576)
def OpenSpec.upto (s : _root_.Go.ChangeSpec) : _root_.Go.OpenSpec := { _root_.Go.OpenSpec.ofChange s with cond := some uptoSmall }

/-- 'tabulariumlaw12.CmtReads', WHERE WHAT IT READS IS OF BULK AT MOST 1048576: true; the input reads as it did. -/
def cmtReadsUptoRow : OpenClaim := { program := "ytjnaiicgincndaa", sum := "faad67176d2f008f90b06610724a41c0a07571c8797694485ab3c4285ff343d0", func := "tabularium/tabulariumlaw12.CmtReads", spec := "cmtReads", unfollowed := true, recurses := true, apart := false, narrowed := true }
def CmtReadsUptoSaid : Prop := cmtReadsUptoRow.holds Try.pinned (OpenSpec.upto cmtReadsSpec)

/-- 'tabulariumlaw12.CmtBack', WHERE WHAT IT READS IS OF BULK AT MOST 1048576: true; the input reads as it did. -/
def cmtBackUptoRow : OpenClaim := { program := "ytjnaiicgincndaa", sum := "faad67176d2f008f90b06610724a41c0a07571c8797694485ab3c4285ff343d0", func := "tabularium/tabulariumlaw12.CmtBack", spec := "cmtBack", unfollowed := true, recurses := true, apart := false, narrowed := true }
def CmtBackUptoSaid : Prop := cmtBackUptoRow.holds Try.pinned (OpenSpec.upto cmtBackSpec)

/-- 'tabulariumlaw12.CmtPuts', WHERE WHAT IT READS IS OF BULK AT MOST 1048576: true; the input reads as it did. -/
def cmtPutsUptoRow : OpenClaim := { program := "ytjnaiicgincndaa", sum := "faad67176d2f008f90b06610724a41c0a07571c8797694485ab3c4285ff343d0", func := "tabularium/tabulariumlaw12.CmtPuts", spec := "cmtPuts", inPlace := ["internal/bytealg.Compare"], unfollowed := true, recurses := true, apart := false, narrowed := true }
def CmtPutsUptoSaid : Prop := cmtPutsUptoRow.holds Try.pinned (OpenSpec.upto cmtPutsSpec)

/-- 'tabulariumlaw09.EnvelReads', WHERE WHAT IT READS IS OF BULK AT MOST 1048576: true; the input reads as it did. -/
def envelReadsUptoRow : OpenClaim := { program := "ytjnaiicgincndaa", sum := "faad67176d2f008f90b06610724a41c0a07571c8797694485ab3c4285ff343d0", func := "tabularium/tabulariumlaw09.EnvelReads", spec := "envelReads", inPlace := ["internal/bytealg.Compare"], unfollowed := true, recurses := true, apart := false, narrowed := true }
def EnvelReadsUptoSaid : Prop := envelReadsUptoRow.holds Try.pinned (OpenSpec.upto envelReadsSpec)

/-- 'tabulariumlaw09.EnvelBack', WHERE WHAT IT READS IS OF BULK AT MOST 1048576: true; the input reads as it did. -/
def envelBackUptoRow : OpenClaim := { program := "ytjnaiicgincndaa", sum := "faad67176d2f008f90b06610724a41c0a07571c8797694485ab3c4285ff343d0", func := "tabularium/tabulariumlaw09.EnvelBack", spec := "envelBack", inPlace := ["internal/bytealg.Compare"], unfollowed := true, recurses := true, apart := false, narrowed := true }
def EnvelBackUptoSaid : Prop := envelBackUptoRow.holds Try.pinned (OpenSpec.upto envelBackSpec)

/-- 'tabulariumlaw09.EnvelLinks', WHERE WHAT IT READS IS OF BULK AT MOST 1048576: true; the input reads as it did. -/
def envelLinksUptoRow : OpenClaim := { program := "ytjnaiicgincndaa", sum := "faad67176d2f008f90b06610724a41c0a07571c8797694485ab3c4285ff343d0", func := "tabularium/tabulariumlaw09.EnvelLinks", spec := "envelLinks", inPlace := ["internal/bytealg.Compare"], unfollowed := true, recurses := true, apart := false, narrowed := true }
def EnvelLinksUptoSaid : Prop := envelLinksUptoRow.holds Try.pinned (OpenSpec.upto envelLinksSpec)

/-- 'tabulariumlaw11.DirReads', WHERE WHAT IT READS IS OF BULK AT MOST 1048576: true; the input reads as it did. -/
def dirReadsUptoRow : OpenClaim := { program := "ytjnaiicgincndaa", sum := "faad67176d2f008f90b06610724a41c0a07571c8797694485ab3c4285ff343d0", func := "tabularium/tabulariumlaw11.DirReads", spec := "dirReads", inPlace := ["internal/bytealg.Compare"], apart := false, narrowed := true }
def DirReadsUptoSaid : Prop := dirReadsUptoRow.holds Try.pinned (OpenSpec.upto dirReadsSpec)

/-- 'tabulariumlaw11.DirBack', WHERE WHAT IT READS IS OF BULK AT MOST 1048576: true; the input reads as it did. -/
def dirBackUptoRow : OpenClaim := { program := "ytjnaiicgincndaa", sum := "faad67176d2f008f90b06610724a41c0a07571c8797694485ab3c4285ff343d0", func := "tabularium/tabulariumlaw11.DirBack", spec := "dirBack", inPlace := ["internal/bytealg.Compare"], apart := false, narrowed := true }
def DirBackUptoSaid : Prop := dirBackUptoRow.holds Try.pinned (OpenSpec.upto dirBackSpec)

/-- 'tabulariumlaw11.DirStays', WHERE WHAT IT READS IS OF BULK AT MOST 1048576: true; the input reads as it did. -/
def dirStaysUptoRow : OpenClaim := { program := "ytjnaiicgincndaa", sum := "faad67176d2f008f90b06610724a41c0a07571c8797694485ab3c4285ff343d0", func := "tabularium/tabulariumlaw11.DirStays", spec := "dirStays", inPlace := ["internal/bytealg.Compare", "slices.overlaps[tabularium/api.Entry]"], unfollowed := true, recurses := true, apart := false, narrowed := true }
def DirStaysUptoSaid : Prop := dirStaysUptoRow.holds Try.pinned (OpenSpec.upto dirStaysSpec)

/-- 'tabulariumlaw11.DirChanges', WHERE WHAT IT READS IS OF BULK AT MOST 1048576: true; the input reads as it did. -/
def dirChangesUptoRow : OpenClaim := { program := "ytjnaiicgincndaa", sum := "faad67176d2f008f90b06610724a41c0a07571c8797694485ab3c4285ff343d0", func := "tabularium/tabulariumlaw11.DirChanges", spec := "dirChanges", inPlace := ["internal/bytealg.Compare", "slices.overlaps[tabularium/api.Entry]"], unfollowed := true, recurses := true, apart := false, narrowed := true }
def DirChangesUptoSaid : Prop := dirChangesUptoRow.holds Try.pinned (OpenSpec.upto dirChangesSpec)

end Rows
end Go.Proofs.Ytjnaiicgincndaa
