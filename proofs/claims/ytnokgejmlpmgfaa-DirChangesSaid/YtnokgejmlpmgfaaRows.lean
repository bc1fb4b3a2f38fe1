/-
  No cell of these rows narrows 'for every input' (looked for: loops, veiled, ifaces, maps, wideKeys, modest, calm, conditions, laid).
  DERIVED. THE GIVEN ROWS OF THIS SEAT. 10 by the template 'for every input the law returns true; each argument reads behind the call as it read before'; 0 by the template 'total and deterministic' (their statements: YtnokgejmlpmgfaaTotals.lean).
  GIVEN WITH THE SEED: the statements are not yours to turn. If you find one false, say at which input.
  Laid BY PROGRAM, IN A SANDBOX (cutbox-rows.mjs): the forced cells as the released guide's own fill.sh prints them over the translation 7b256fb182419b8a… (all of the seat's roots in one cut). By AI agents, Wed Nov 11 2026. No macro, syntax, notation, axiom, sorry.
-/
import Derived.Test.YtnokgejmlpmgfaaChecked
import GoSem.Claim
import GoSem.ClaimJoined
import GoSem.ClaimMapViews
import Derived.JoinedTies
import Derived.KernelRfl
namespace Go.Proofs.Ytnokgejmlpmgfaa
/- THE CELL 'sum', in the pinned program and in every row, IS THE sha256 OF THE DUMP (.gsa) THAT YtnokgejmlpmgfaaProg.lean LOADS. Nothing in Lean hashes anything: it is a label: what it is worth is what the hold of that sum in a sandbox is worth. -/
noncomputable def Try.pinned : Pinned := { name := "ytnokgejmlpmgfaa", sum := "7b256fb182419b8ae622a9b82ca9a4448abf36c7fc10dd3dc2624b47f0d17673", checked := Try.checked }
namespace Rows
def none {H : Type} : Left H := { results := [], args := [] }

/-- 'tabulariumlaw11.DirPuts': WHATEVER THE INPUT: true; the input reads as it did. -/
def dirPutsSpec : ChangeSpec := { name := "dirPuts", fn := fun _ => fun
  | [d] => { results := [.lit (.bool true)], args := [d] }
  | _ => none }
def dirPutsRow : OpenClaim := { program := "ytnokgejmlpmgfaa", sum := "7b256fb182419b8ae622a9b82ca9a4448abf36c7fc10dd3dc2624b47f0d17673", func := "tabularium/tabulariumlaw11.DirPuts", spec := "dirPuts", inPlace := ["internal/bytealg.Compare"], plainKeys := false, apart := false }
def DirPutsSaid : Prop := dirPutsRow.holds Try.pinned (OpenSpec.ofChange dirPutsSpec)

/-- ITS FALSE NEIGHBOUR: 'it returns false'. Refute it at one input. -/
def dirPutsWrong : ChangeSpec := { name := "dirPuts", fn := fun _ => fun
  | [d] => { results := [.lit (.bool false)], args := [d] }
  | _ => none }
def DirPutsWrongFalsely : Prop := dirPutsRow.holds Try.pinned (OpenSpec.ofChange dirPutsWrong)

/-- 'tabulariumlaw22.AclRevokes': WHATEVER THE INPUT: true; the input reads as it did. -/
def aclRevokesSpec : ChangeSpec := { name := "aclRevokes", fn := fun _ => fun
  | [d1, d2, d3, d4] => { results := [.lit (.bool true)], args := [d1, d2, d3, d4] }
  | _ => none }
def aclRevokesRow : OpenClaim := { program := "ytnokgejmlpmgfaa", sum := "7b256fb182419b8ae622a9b82ca9a4448abf36c7fc10dd3dc2624b47f0d17673", func := "tabularium/tabulariumlaw22.AclRevokes", spec := "aclRevokes", unfollowed := true, recurses := true, plainKeys := false, apart := false }
def AclRevokesSaid : Prop := aclRevokesRow.holds Try.pinned (OpenSpec.ofChange aclRevokesSpec)

/-- ITS FALSE NEIGHBOUR: 'it returns false'. Refute it at one input. -/
def aclRevokesWrong : ChangeSpec := { name := "aclRevokes", fn := fun _ => fun
  | [d1, d2, d3, d4] => { results := [.lit (.bool false)], args := [d1, d2, d3, d4] }
  | _ => none }
def AclRevokesWrongFalsely : Prop := aclRevokesRow.holds Try.pinned (OpenSpec.ofChange aclRevokesWrong)

/-- 'tabulariumlaw22.AclNone': WHATEVER THE INPUT: true; the input reads as it did. -/
def aclNoneSpec : ChangeSpec := { name := "aclNone", fn := fun _ => fun
  | [d1, d2, d3] => { results := [.lit (.bool true)], args := [d1, d2, d3] }
  | _ => none }
def aclNoneRow : OpenClaim := { program := "ytnokgejmlpmgfaa", sum := "7b256fb182419b8ae622a9b82ca9a4448abf36c7fc10dd3dc2624b47f0d17673", func := "tabularium/tabulariumlaw22.AclNone", spec := "aclNone", unfollowed := true, recurses := true, plainKeys := false, apart := false }
def AclNoneSaid : Prop := aclNoneRow.holds Try.pinned (OpenSpec.ofChange aclNoneSpec)

/-- ITS FALSE NEIGHBOUR: 'it returns false'. Refute it at one input. -/
def aclNoneWrong : ChangeSpec := { name := "aclNone", fn := fun _ => fun
  | [d1, d2, d3] => { results := [.lit (.bool false)], args := [d1, d2, d3] }
  | _ => none }
def AclNoneWrongFalsely : Prop := aclNoneRow.holds Try.pinned (OpenSpec.ofChange aclNoneWrong)

/-- 'tabulariumlaw22.AclDoes': WHATEVER THE INPUT: true; the input reads as it did. -/
def aclDoesSpec : ChangeSpec := { name := "aclDoes", fn := fun _ => fun
  | [d1, d2, d3, d4] => { results := [.lit (.bool true)], args := [d1, d2, d3, d4] }
  | _ => none }
def aclDoesRow : OpenClaim := { program := "ytnokgejmlpmgfaa", sum := "7b256fb182419b8ae622a9b82ca9a4448abf36c7fc10dd3dc2624b47f0d17673", func := "tabularium/tabulariumlaw22.AclDoes", spec := "aclDoes", unfollowed := true, recurses := true, plainKeys := false, apart := false }
def AclDoesSaid : Prop := aclDoesRow.holds Try.pinned (OpenSpec.ofChange aclDoesSpec)

/-- ITS FALSE NEIGHBOUR: 'it returns false'. Refute it at one input. -/
def aclDoesWrong : ChangeSpec := { name := "aclDoes", fn := fun _ => fun
  | [d1, d2, d3, d4] => { results := [.lit (.bool false)], args := [d1, d2, d3, d4] }
  | _ => none }
def AclDoesWrongFalsely : Prop := aclDoesRow.holds Try.pinned (OpenSpec.ofChange aclDoesWrong)

/-- 'tabulariumlaw09.EnvelReads': WHATEVER THE INPUT: true; the input reads as it did. -/
def envelReadsSpec : ChangeSpec := { name := "envelReads", fn := fun _ => fun
  | [d] => { results := [.lit (.bool true)], args := [d] }
  | _ => none }
def envelReadsRow : OpenClaim := { program := "ytnokgejmlpmgfaa", sum := "7b256fb182419b8ae622a9b82ca9a4448abf36c7fc10dd3dc2624b47f0d17673", func := "tabularium/tabulariumlaw09.EnvelReads", spec := "envelReads", inPlace := ["internal/bytealg.Compare"], unfollowed := true, recurses := true, plainKeys := false, apart := false }
def EnvelReadsSaid : Prop := envelReadsRow.holds Try.pinned (OpenSpec.ofChange envelReadsSpec)

/-- ITS FALSE NEIGHBOUR: 'it returns false'. Refute it at one input. -/
def envelReadsWrong : ChangeSpec := { name := "envelReads", fn := fun _ => fun
  | [d] => { results := [.lit (.bool false)], args := [d] }
  | _ => none }
def EnvelReadsWrongFalsely : Prop := envelReadsRow.holds Try.pinned (OpenSpec.ofChange envelReadsWrong)

/-- 'tabulariumlaw11.DirReads': WHATEVER THE INPUT: true; the input reads as it did. -/
def dirReadsSpec : ChangeSpec := { name := "dirReads", fn := fun _ => fun
  | [d] => { results := [.lit (.bool true)], args := [d] }
  | _ => none }
def dirReadsRow : OpenClaim := { program := "ytnokgejmlpmgfaa", sum := "7b256fb182419b8ae622a9b82ca9a4448abf36c7fc10dd3dc2624b47f0d17673", func := "tabularium/tabulariumlaw11.DirReads", spec := "dirReads", inPlace := ["internal/bytealg.Compare"], plainKeys := false, apart := false }
def DirReadsSaid : Prop := dirReadsRow.holds Try.pinned (OpenSpec.ofChange dirReadsSpec)

/-- ITS FALSE NEIGHBOUR: 'it returns false'. Refute it at one input. -/
def dirReadsWrong : ChangeSpec := { name := "dirReads", fn := fun _ => fun
  | [d] => { results := [.lit (.bool false)], args := [d] }
  | _ => none }
def DirReadsWrongFalsely : Prop := dirReadsRow.holds Try.pinned (OpenSpec.ofChange dirReadsWrong)

/-- 'tabulariumlaw11.DirBack': WHATEVER THE INPUT: true; the input reads as it did. -/
def dirBackSpec : ChangeSpec := { name := "dirBack", fn := fun _ => fun
  | [d1, d2] => { results := [.lit (.bool true)], args := [d1, d2] }
  | _ => none }
def dirBackRow : OpenClaim := { program := "ytnokgejmlpmgfaa", sum := "7b256fb182419b8ae622a9b82ca9a4448abf36c7fc10dd3dc2624b47f0d17673", func := "tabularium/tabulariumlaw11.DirBack", spec := "dirBack", inPlace := ["internal/bytealg.Compare"], plainKeys := false, apart := false }
def DirBackSaid : Prop := dirBackRow.holds Try.pinned (OpenSpec.ofChange dirBackSpec)

/-- ITS FALSE NEIGHBOUR: 'it returns false'. Refute it at one input. -/
def dirBackWrong : ChangeSpec := { name := "dirBack", fn := fun _ => fun
  | [d1, d2] => { results := [.lit (.bool false)], args := [d1, d2] }
  | _ => none }
def DirBackWrongFalsely : Prop := dirBackRow.holds Try.pinned (OpenSpec.ofChange dirBackWrong)

/-- 'tabulariumlaw11.DirStays': WHATEVER THE INPUT: true; the input reads as it did. -/
def dirStaysSpec : ChangeSpec := { name := "dirStays", fn := fun _ => fun
  | [d1, d2, d3] => { results := [.lit (.bool true)], args := [d1, d2, d3] }
  | _ => none }
def dirStaysRow : OpenClaim := { program := "ytnokgejmlpmgfaa", sum := "7b256fb182419b8ae622a9b82ca9a4448abf36c7fc10dd3dc2624b47f0d17673", func := "tabularium/tabulariumlaw11.DirStays", spec := "dirStays", inPlace := ["internal/bytealg.Compare", "slices.overlaps[tabularium/api.Entry]"], unfollowed := true, recurses := true, plainKeys := false, apart := false }
def DirStaysSaid : Prop := dirStaysRow.holds Try.pinned (OpenSpec.ofChange dirStaysSpec)

/-- ITS FALSE NEIGHBOUR: 'it returns false'. Refute it at one input. -/
def dirStaysWrong : ChangeSpec := { name := "dirStays", fn := fun _ => fun
  | [d1, d2, d3] => { results := [.lit (.bool false)], args := [d1, d2, d3] }
  | _ => none }
def DirStaysWrongFalsely : Prop := dirStaysRow.holds Try.pinned (OpenSpec.ofChange dirStaysWrong)

/-- 'tabulariumlaw22.AclReaders': WHATEVER THE INPUT: true; the input reads as it did. -/
def aclReadersSpec : ChangeSpec := { name := "aclReaders", fn := fun _ => fun
  | [d1, d2, d3, d4, d5] => { results := [.lit (.bool true)], args := [d1, d2, d3, d4, d5] }
  | _ => none }
def aclReadersRow : OpenClaim := { program := "ytnokgejmlpmgfaa", sum := "7b256fb182419b8ae622a9b82ca9a4448abf36c7fc10dd3dc2624b47f0d17673", func := "tabularium/tabulariumlaw22.AclReaders", spec := "aclReaders", unfollowed := true, recurses := true, plainKeys := false, apart := false }
def AclReadersSaid : Prop := aclReadersRow.holds Try.pinned (OpenSpec.ofChange aclReadersSpec)

/-- ITS FALSE NEIGHBOUR: 'it returns false'. Refute it at one input. -/
def aclReadersWrong : ChangeSpec := { name := "aclReaders", fn := fun _ => fun
  | [d1, d2, d3, d4, d5] => { results := [.lit (.bool false)], args := [d1, d2, d3, d4, d5] }
  | _ => none }
def AclReadersWrongFalsely : Prop := aclReadersRow.holds Try.pinned (OpenSpec.ofChange aclReadersWrong)

/-- 'tabulariumlaw11.DirChanges': WHATEVER THE INPUT: true; the input reads as it did. -/
def dirChangesSpec : ChangeSpec := { name := "dirChanges", fn := fun _ => fun
  | [d1, d2, d3, d4] => { results := [.lit (.bool true)], args := [d1, d2, d3, d4] }
  | _ => none }
def dirChangesRow : OpenClaim := { program := "ytnokgejmlpmgfaa", sum := "7b256fb182419b8ae622a9b82ca9a4448abf36c7fc10dd3dc2624b47f0d17673", func := "tabularium/tabulariumlaw11.DirChanges", spec := "dirChanges", inPlace := ["internal/bytealg.Compare", "slices.overlaps[tabularium/api.Entry]"], unfollowed := true, recurses := true, plainKeys := false, apart := false }
def DirChangesSaid : Prop := dirChangesRow.holds Try.pinned (OpenSpec.ofChange dirChangesSpec)

/-- ITS FALSE NEIGHBOUR: 'it returns false'. Refute it at one input. -/
def dirChangesWrong : ChangeSpec := { name := "dirChanges", fn := fun _ => fun
  | [d1, d2, d3, d4] => { results := [.lit (.bool false)], args := [d1, d2, d3, d4] }
  | _ => none }
def DirChangesWrongFalsely : Prop := dirChangesRow.holds Try.pinned (OpenSpec.ofChange dirChangesWrong)

/- THE SECOND FORM. 'bulk': how many values and letters a reading holds, each counted each time it is reached (what is shared counts as often as it is met; a slice's spare places count too). A statement '..UptoSaid' is the law's where the arguments, and the package variables that the reading takes, are together of bulk at most 1048576: NARROWER than '..Said'. Prove '..Said' where nothing that the law and all that it calls make is longer than what came in: it says more and counts as full. Else prove '..UptoSaid'. A law counts once. -/
mutual
def uptoBulk {H : Type} : DataW H → Nat
  | .lit (.string bytes) => bytes.length + 1
  | .lit _ => 1
  | .nil => 1
  | .ptr d => uptoBulk d + 1
  | .slice elems spare => uptoBulkAll elems + uptoBulkAll spare + 1
  | .agg parts => uptoBulkAll parts + 1
  | .iface _ d => uptoBulk d + 1
  | .map entries => uptoBulkEntries entries + 1
  | .held _ => 1
def uptoBulkAll {H : Type} : List (DataW H) → Nat
  | [] => 0
  | d :: r => uptoBulk d + uptoBulkAll r
def uptoBulkEntries {H : Type} : List (Lit × DataW H) → Nat
  | [] => 0
  | x :: r => uptoBulkEntry x + uptoBulkEntries r
def uptoBulkEntry {H : Type} : Lit × DataW H → Nat
  | (.string bytes, d) => bytes.length + uptoBulk d + 1
  | (_, d) => uptoBulk d + 1
 end
def uptoSmall : (H : Type) → List (DataW H) → Bool := fun _ ds => decide (uptoBulkAll ds ≤ 1048576)
def OpenSpec.upto (s : _root_.Go.ChangeSpec) : _root_.Go.OpenSpec := { _root_.Go.OpenSpec.ofChange s with cond := some uptoSmall }

/-- 'tabulariumlaw11.DirPuts', WHERE WHAT IT READS IS OF BULK AT MOST 1048576: true; the input reads as it did. -/
def dirPutsUptoRow : OpenClaim := { program := "ytnokgejmlpmgfaa", sum := "7b256fb182419b8ae622a9b82ca9a4448abf36c7fc10dd3dc2624b47f0d17673", func := "tabularium/tabulariumlaw11.DirPuts", spec := "dirPuts", inPlace := ["internal/bytealg.Compare"], plainKeys := false, apart := false, narrowed := true }
def DirPutsUptoSaid : Prop := dirPutsUptoRow.holds Try.pinned (OpenSpec.upto dirPutsSpec)

/-- 'tabulariumlaw22.AclRevokes', WHERE WHAT IT READS IS OF BULK AT MOST 1048576: true; the input reads as it did. -/
def aclRevokesUptoRow : OpenClaim := { program := "ytnokgejmlpmgfaa", sum := "7b256fb182419b8ae622a9b82ca9a4448abf36c7fc10dd3dc2624b47f0d17673", func := "tabularium/tabulariumlaw22.AclRevokes", spec := "aclRevokes", unfollowed := true, recurses := true, plainKeys := false, apart := false, narrowed := true }
def AclRevokesUptoSaid : Prop := aclRevokesUptoRow.holds Try.pinned (OpenSpec.upto aclRevokesSpec)

/-- 'tabulariumlaw22.AclNone', WHERE WHAT IT READS IS OF BULK AT MOST 1048576: true; the input reads as it did. -/
def aclNoneUptoRow : OpenClaim := { program := "ytnokgejmlpmgfaa", sum := "7b256fb182419b8ae622a9b82ca9a4448abf36c7fc10dd3dc2624b47f0d17673", func := "tabularium/tabulariumlaw22.AclNone", spec := "aclNone", unfollowed := true, recurses := true, plainKeys := false, apart := false, narrowed := true }
def AclNoneUptoSaid : Prop := aclNoneUptoRow.holds Try.pinned (OpenSpec.upto aclNoneSpec)

/-- 'tabulariumlaw22.AclDoes', WHERE WHAT IT READS IS OF BULK AT MOST 1048576: true; the input reads as it did. -/
def aclDoesUptoRow : OpenClaim := { program := "ytnokgejmlpmgfaa", sum := "7b256fb182419b8ae622a9b82ca9a4448abf36c7fc10dd3dc2624b47f0d17673", func := "tabularium/tabulariumlaw22.AclDoes", spec := "aclDoes", unfollowed := true, recurses := true, plainKeys := false, apart := false, narrowed := true }
def AclDoesUptoSaid : Prop := aclDoesUptoRow.holds Try.pinned (OpenSpec.upto aclDoesSpec)

/-- 'tabulariumlaw09.EnvelReads', WHERE WHAT IT READS IS OF BULK AT MOST 1048576: true; the input reads as it did. -/
def envelReadsUptoRow : OpenClaim := { program := "ytnokgejmlpmgfaa", sum := "7b256fb182419b8ae622a9b82ca9a4448abf36c7fc10dd3dc2624b47f0d17673", func := "tabularium/tabulariumlaw09.EnvelReads", spec := "envelReads", inPlace := ["internal/bytealg.Compare"], unfollowed := true, recurses := true, plainKeys := false, apart := false, narrowed := true }
def EnvelReadsUptoSaid : Prop := envelReadsUptoRow.holds Try.pinned (OpenSpec.upto envelReadsSpec)

/-- 'tabulariumlaw11.DirReads', WHERE WHAT IT READS IS OF BULK AT MOST 1048576: true; the input reads as it did. -/
def dirReadsUptoRow : OpenClaim := { program := "ytnokgejmlpmgfaa", sum := "7b256fb182419b8ae622a9b82ca9a4448abf36c7fc10dd3dc2624b47f0d17673", func := "tabularium/tabulariumlaw11.DirReads", spec := "dirReads", inPlace := ["internal/bytealg.Compare"], plainKeys := false, apart := false, narrowed := true }
def DirReadsUptoSaid : Prop := dirReadsUptoRow.holds Try.pinned (OpenSpec.upto dirReadsSpec)

/-- 'tabulariumlaw11.DirBack', WHERE WHAT IT READS IS OF BULK AT MOST 1048576: true; the input reads as it did. -/
def dirBackUptoRow : OpenClaim := { program := "ytnokgejmlpmgfaa", sum := "7b256fb182419b8ae622a9b82ca9a4448abf36c7fc10dd3dc2624b47f0d17673", func := "tabularium/tabulariumlaw11.DirBack", spec := "dirBack", inPlace := ["internal/bytealg.Compare"], plainKeys := false, apart := false, narrowed := true }
def DirBackUptoSaid : Prop := dirBackUptoRow.holds Try.pinned (OpenSpec.upto dirBackSpec)

/-- 'tabulariumlaw11.DirStays', WHERE WHAT IT READS IS OF BULK AT MOST 1048576: true; the input reads as it did. -/
def dirStaysUptoRow : OpenClaim := { program := "ytnokgejmlpmgfaa", sum := "7b256fb182419b8ae622a9b82ca9a4448abf36c7fc10dd3dc2624b47f0d17673", func := "tabularium/tabulariumlaw11.DirStays", spec := "dirStays", inPlace := ["internal/bytealg.Compare", "slices.overlaps[tabularium/api.Entry]"], unfollowed := true, recurses := true, plainKeys := false, apart := false, narrowed := true }
def DirStaysUptoSaid : Prop := dirStaysUptoRow.holds Try.pinned (OpenSpec.upto dirStaysSpec)

/-- 'tabulariumlaw22.AclReaders', WHERE WHAT IT READS IS OF BULK AT MOST 1048576: true; the input reads as it did. -/
def aclReadersUptoRow : OpenClaim := { program := "ytnokgejmlpmgfaa", sum := "7b256fb182419b8ae622a9b82ca9a4448abf36c7fc10dd3dc2624b47f0d17673", func := "tabularium/tabulariumlaw22.AclReaders", spec := "aclReaders", unfollowed := true, recurses := true, plainKeys := false, apart := false, narrowed := true }
def AclReadersUptoSaid : Prop := aclReadersUptoRow.holds Try.pinned (OpenSpec.upto aclReadersSpec)

/-- 'tabulariumlaw11.DirChanges', WHERE WHAT IT READS IS OF BULK AT MOST 1048576: true; the input reads as it did. -/
def dirChangesUptoRow : OpenClaim := { program := "ytnokgejmlpmgfaa", sum := "7b256fb182419b8ae622a9b82ca9a4448abf36c7fc10dd3dc2624b47f0d17673", func := "tabularium/tabulariumlaw11.DirChanges", spec := "dirChanges", inPlace := ["internal/bytealg.Compare", "slices.overlaps[tabularium/api.Entry]"], unfollowed := true, recurses := true, plainKeys := false, apart := false, narrowed := true }
def DirChangesUptoSaid : Prop := dirChangesUptoRow.holds Try.pinned (OpenSpec.upto dirChangesSpec)

end Rows
end Go.Proofs.Ytnokgejmlpmgfaa
