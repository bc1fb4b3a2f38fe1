/-
  No cell of these rows narrows 'for every input' (looked for: loops, veiled, ifaces, maps, wideKeys, modest, calm, conditions, laid).
  DERIVED. THE GIVEN ROWS OF THIS SEAT. 9 by the template 'for every input the law returns true; each argument reads behind the call as it read before'; 0 by the template 'total and deterministic' (their statements: YtemhfociaikijaaTotals.lean).
  GIVEN WITH THE SEED: the statements are not yours to turn. If you find one false, say at which input.
  Laid BY PROGRAM, IN A SANDBOX (cutbox-rows.mjs): the forced cells as the released guide's own fill.sh prints them over the translation de2b8beb10a1adbe… (all of the seat's roots in one cut). By AI agents, Wed Nov 11 2026. No macro, syntax, notation, axiom, sorry.
-/
import Derived.Test.YtemhfociaikijaaChecked
import GoSem.Claim
import GoSem.ClaimJoined
import GoSem.ClaimMapViews
import Derived.JoinedTies
import Derived.KernelRfl
namespace Go.Proofs.Ytemhfociaikijaa
/- THE CELL 'sum', in the pinned program and in every row, IS THE sha256 OF THE DUMP (.gsa) THAT YtemhfociaikijaaProg.lean LOADS. Nothing in Lean hashes anything: it is a label: what it is worth is what the hold of that sum in a sandbox is worth. -/
noncomputable def Try.pinned : Pinned := { name := "ytemhfociaikijaa", sum := "de2b8beb10a1adbeb299a13e948df3c5939a6decdd4a0b628af076c7cf5a0e78", checked := Try.checked }
namespace Rows
def none {H : Type} : Left H := { results := [], args := [] }

/-- 'tabulariumlaw06.TapeTakes': WHATEVER THE INPUT: true; the input reads as it did. -/
def tapeTakesSpec : ChangeSpec := { name := "tapeTakes", fn := fun _ => fun
  | [d1, d2] => { results := [.lit (.bool true)], args := [d1, d2] }
  | _ => none }
def tapeTakesRow : OpenClaim := { program := "ytemhfociaikijaa", sum := "de2b8beb10a1adbeb299a13e948df3c5939a6decdd4a0b628af076c7cf5a0e78", func := "tabularium/tabulariumlaw06.TapeTakes", spec := "tapeTakes", apart := false }
def TapeTakesSaid : Prop := tapeTakesRow.holds Try.pinned (OpenSpec.ofChange tapeTakesSpec)

/-- ITS FALSE NEIGHBOUR: 'it returns false'. Refute it at one input. -/
def tapeTakesWrong : ChangeSpec := { name := "tapeTakes", fn := fun _ => fun
  | [d1, d2] => { results := [.lit (.bool false)], args := [d1, d2] }
  | _ => none }
def TapeTakesWrongFalsely : Prop := tapeTakesRow.holds Try.pinned (OpenSpec.ofChange tapeTakesWrong)

/-- 'tabulariumlaw06.TapeClones': WHATEVER THE INPUT: true; the input reads as it did. -/
def tapeClonesSpec : ChangeSpec := { name := "tapeClones", fn := fun _ => fun
  | [d1, d2, d3] => { results := [.lit (.bool true)], args := [d1, d2, d3] }
  | _ => none }
def tapeClonesRow : OpenClaim := { program := "ytemhfociaikijaa", sum := "de2b8beb10a1adbeb299a13e948df3c5939a6decdd4a0b628af076c7cf5a0e78", func := "tabularium/tabulariumlaw06.TapeClones", spec := "tapeClones", apart := false }
def TapeClonesSaid : Prop := tapeClonesRow.holds Try.pinned (OpenSpec.ofChange tapeClonesSpec)

/-- ITS FALSE NEIGHBOUR: 'it returns false'. Refute it at one input. -/
def tapeClonesWrong : ChangeSpec := { name := "tapeClones", fn := fun _ => fun
  | [d1, d2, d3] => { results := [.lit (.bool false)], args := [d1, d2, d3] }
  | _ => none }
def TapeClonesWrongFalsely : Prop := tapeClonesRow.holds Try.pinned (OpenSpec.ofChange tapeClonesWrong)

/-- 'tabulariumlaw06.TapeKeys': WHATEVER THE INPUT: true; the input reads as it did. -/
def tapeKeysSpec : ChangeSpec := { name := "tapeKeys", fn := fun _ => fun
  | [d] => { results := [.lit (.bool true)], args := [d] }
  | _ => none }
def tapeKeysRow : OpenClaim := { program := "ytemhfociaikijaa", sum := "de2b8beb10a1adbeb299a13e948df3c5939a6decdd4a0b628af076c7cf5a0e78", func := "tabularium/tabulariumlaw06.TapeKeys", spec := "tapeKeys", apart := false }
def TapeKeysSaid : Prop := tapeKeysRow.holds Try.pinned (OpenSpec.ofChange tapeKeysSpec)

/-- ITS FALSE NEIGHBOUR: 'it returns false'. Refute it at one input. -/
def tapeKeysWrong : ChangeSpec := { name := "tapeKeys", fn := fun _ => fun
  | [d] => { results := [.lit (.bool false)], args := [d] }
  | _ => none }
def TapeKeysWrongFalsely : Prop := tapeKeysRow.holds Try.pinned (OpenSpec.ofChange tapeKeysWrong)

/-- 'tabulariumlaw12.CmtTells': WHATEVER THE INPUT: true; the input reads as it did. -/
def cmtTellsSpec : ChangeSpec := { name := "cmtTells", fn := fun _ => fun
  | [d1, d2, d3] => { results := [.lit (.bool true)], args := [d1, d2, d3] }
  | _ => none }
def cmtTellsRow : OpenClaim := { program := "ytemhfociaikijaa", sum := "de2b8beb10a1adbeb299a13e948df3c5939a6decdd4a0b628af076c7cf5a0e78", func := "tabularium/tabulariumlaw12.CmtTells", spec := "cmtTells", apart := false }
def CmtTellsSaid : Prop := cmtTellsRow.holds Try.pinned (OpenSpec.ofChange cmtTellsSpec)

/-- ITS FALSE NEIGHBOUR: 'it returns false'. Refute it at one input. -/
def cmtTellsWrong : ChangeSpec := { name := "cmtTells", fn := fun _ => fun
  | [d1, d2, d3] => { results := [.lit (.bool false)], args := [d1, d2, d3] }
  | _ => none }
def CmtTellsWrongFalsely : Prop := cmtTellsRow.holds Try.pinned (OpenSpec.ofChange cmtTellsWrong)

/-- 'tabulariumlaw10.RouteNames': WHATEVER THE INPUT: true; the input reads as it did. -/
def routeNamesSpec : ChangeSpec := { name := "routeNames", fn := fun _ => fun
  | [d1, d2] => { results := [.lit (.bool true)], args := [d1, d2] }
  | _ => none }
def routeNamesRow : OpenClaim := { program := "ytemhfociaikijaa", sum := "de2b8beb10a1adbeb299a13e948df3c5939a6decdd4a0b628af076c7cf5a0e78", func := "tabularium/tabulariumlaw10.RouteNames", spec := "routeNames", unfollowed := true, recurses := true, apart := false }
def RouteNamesSaid : Prop := routeNamesRow.holds Try.pinned (OpenSpec.ofChange routeNamesSpec)

/-- ITS FALSE NEIGHBOUR: 'it returns false'. Refute it at one input. -/
def routeNamesWrong : ChangeSpec := { name := "routeNames", fn := fun _ => fun
  | [d1, d2] => { results := [.lit (.bool false)], args := [d1, d2] }
  | _ => none }
def RouteNamesWrongFalsely : Prop := routeNamesRow.holds Try.pinned (OpenSpec.ofChange routeNamesWrong)

/-- 'tabulariumlaw10.RouteSplits': WHATEVER THE INPUT: true; the input reads as it did. -/
def routeSplitsSpec : ChangeSpec := { name := "routeSplits", fn := fun _ => fun
  | [d1, d2] => { results := [.lit (.bool true)], args := [d1, d2] }
  | _ => none }
def routeSplitsRow : OpenClaim := { program := "ytemhfociaikijaa", sum := "de2b8beb10a1adbeb299a13e948df3c5939a6decdd4a0b628af076c7cf5a0e78", func := "tabularium/tabulariumlaw10.RouteSplits", spec := "routeSplits", unfollowed := true, recurses := true, apart := false }
def RouteSplitsSaid : Prop := routeSplitsRow.holds Try.pinned (OpenSpec.ofChange routeSplitsSpec)

/-- ITS FALSE NEIGHBOUR: 'it returns false'. Refute it at one input. -/
def routeSplitsWrong : ChangeSpec := { name := "routeSplits", fn := fun _ => fun
  | [d1, d2] => { results := [.lit (.bool false)], args := [d1, d2] }
  | _ => none }
def RouteSplitsWrongFalsely : Prop := routeSplitsRow.holds Try.pinned (OpenSpec.ofChange routeSplitsWrong)

/-- 'tabulariumlaw10.RouteBack': WHATEVER THE INPUT: true; the input reads as it did. -/
def routeBackSpec : ChangeSpec := { name := "routeBack", fn := fun _ => fun
  | [d] => { results := [.lit (.bool true)], args := [d] }
  | _ => none }
def routeBackRow : OpenClaim := { program := "ytemhfociaikijaa", sum := "de2b8beb10a1adbeb299a13e948df3c5939a6decdd4a0b628af076c7cf5a0e78", func := "tabularium/tabulariumlaw10.RouteBack", spec := "routeBack", unfollowed := true, recurses := true, apart := false }
def RouteBackSaid : Prop := routeBackRow.holds Try.pinned (OpenSpec.ofChange routeBackSpec)

/-- ITS FALSE NEIGHBOUR: 'it returns false'. Refute it at one input. -/
def routeBackWrong : ChangeSpec := { name := "routeBack", fn := fun _ => fun
  | [d] => { results := [.lit (.bool false)], args := [d] }
  | _ => none }
def RouteBackWrongFalsely : Prop := routeBackRow.holds Try.pinned (OpenSpec.ofChange routeBackWrong)

/-- 'tabulariumlaw09.EnvelPuts': WHATEVER THE INPUT: true; the input reads as it did. -/
def envelPutsSpec : ChangeSpec := { name := "envelPuts", fn := fun _ => fun
  | [d] => { results := [.lit (.bool true)], args := [d] }
  | _ => none }
def envelPutsRow : OpenClaim := { program := "ytemhfociaikijaa", sum := "de2b8beb10a1adbeb299a13e948df3c5939a6decdd4a0b628af076c7cf5a0e78", func := "tabularium/tabulariumlaw09.EnvelPuts", spec := "envelPuts", inPlace := ["internal/bytealg.Compare"], unfollowed := true, recurses := true, apart := false }
def EnvelPutsSaid : Prop := envelPutsRow.holds Try.pinned (OpenSpec.ofChange envelPutsSpec)

/-- ITS FALSE NEIGHBOUR: 'it returns false'. Refute it at one input. -/
def envelPutsWrong : ChangeSpec := { name := "envelPuts", fn := fun _ => fun
  | [d] => { results := [.lit (.bool false)], args := [d] }
  | _ => none }
def EnvelPutsWrongFalsely : Prop := envelPutsRow.holds Try.pinned (OpenSpec.ofChange envelPutsWrong)

/-- 'tabulariumlaw11.DirPuts': WHATEVER THE INPUT: true; the input reads as it did. -/
def dirPutsSpec : ChangeSpec := { name := "dirPuts", fn := fun _ => fun
  | [d] => { results := [.lit (.bool true)], args := [d] }
  | _ => none }
def dirPutsRow : OpenClaim := { program := "ytemhfociaikijaa", sum := "de2b8beb10a1adbeb299a13e948df3c5939a6decdd4a0b628af076c7cf5a0e78", func := "tabularium/tabulariumlaw11.DirPuts", spec := "dirPuts", inPlace := ["internal/bytealg.Compare"], apart := false }
def DirPutsSaid : Prop := dirPutsRow.holds Try.pinned (OpenSpec.ofChange dirPutsSpec)

/-- ITS FALSE NEIGHBOUR: 'it returns false'. Refute it at one input. -/
def dirPutsWrong : ChangeSpec := { name := "dirPuts", fn := fun _ => fun
  | [d] => { results := [.lit (.bool false)], args := [d] }
  | _ => none }
def DirPutsWrongFalsely : Prop := dirPutsRow.holds Try.pinned (OpenSpec.ofChange dirPutsWrong)

/- THE SECOND FORM. 'bulk': how many values and letters a reading holds, each counted each time it is reached (what is shared counts as often as it is met; a slice's spare places count too). A statement '..UptoSaid' is the law's where the arguments, and the package variables that the reading takes, are together of bulk at most 1048576: NARROWER than '..Said'. Prove '..Said' where nothing that the law and all that it calls make is longer than what came in: it says more and counts as full. Else prove '..UptoSaid'. A law counts once. -/
mutual
def uptoBulk {H : Type} : DataW H → Nat
  | .lit (.string bytes) => bytes.length + 1
  | .lit _ => 1
  | .nil => 1
  | .ptr d => uptoBulk d + 1
  | .slice elems spare => uptoBulkAll elems + uptoBulkAll spare + 1
  | .agg parts => uptoBulkAll parts + 1
  | .iface _ d => uptoBulk d + 1
  | .map entries => uptoBulkEntries entries + 1
  | .held _ => 1
def uptoBulkAll {H : Type} : List (DataW H) → Nat
  | [] => 0
  | d :: r => uptoBulk d + uptoBulkAll r
def uptoBulkEntries {H : Type} : List (Lit × DataW H) → Nat
  | [] => 0
  | x :: r => uptoBulkEntry x + uptoBulkEntries r
def uptoBulkEntry {H : Type} : Lit × DataW H → Nat
  | (.string bytes, d) => bytes.length + uptoBulk d + 1
  | (_, d) => uptoBulk d + 1
 end
def uptoSmall : (H : Type) → List (DataW H) → Bool := fun _ ds => decide (uptoBulkAll ds ≤ 1048576)
def OpenSpec.upto (s : _root_.Go.ChangeSpec) : _root_.Go.OpenSpec := { _root_.Go.OpenSpec.ofChange s with cond := some uptoSmall }

/-- 'tabulariumlaw06.TapeTakes', WHERE WHAT IT READS IS OF BULK AT MOST 1048576: true; the input reads as it did. -/
def tapeTakesUptoRow : OpenClaim := { program := "ytemhfociaikijaa", sum := "de2b8beb10a1adbeb299a13e948df3c5939a6decdd4a0b628af076c7cf5a0e78", func := "tabularium/tabulariumlaw06.TapeTakes", spec := "tapeTakes", apart := false, narrowed := true }
def TapeTakesUptoSaid : Prop := tapeTakesUptoRow.holds Try.pinned (OpenSpec.upto tapeTakesSpec)

/-- 'tabulariumlaw06.TapeClones', WHERE WHAT IT READS IS OF BULK AT MOST 1048576: true; the input reads as it did. -/
def tapeClonesUptoRow : OpenClaim := { program := "ytemhfociaikijaa", sum := "de2b8beb10a1adbeb299a13e948df3c5939a6decdd4a0b628af076c7cf5a0e78", func := "tabularium/tabulariumlaw06.TapeClones", spec := "tapeClones", apart := false, narrowed := true }
def TapeClonesUptoSaid : Prop := tapeClonesUptoRow.holds Try.pinned (OpenSpec.upto tapeClonesSpec)

/-- 'tabulariumlaw06.TapeKeys', WHERE WHAT IT READS IS OF BULK AT MOST 1048576: true; the input reads as it did. -/
def tapeKeysUptoRow : OpenClaim := { program := "ytemhfociaikijaa", sum := "de2b8beb10a1adbeb299a13e948df3c5939a6decdd4a0b628af076c7cf5a0e78", func := "tabularium/tabulariumlaw06.TapeKeys", spec := "tapeKeys", apart := false, narrowed := true }
def TapeKeysUptoSaid : Prop := tapeKeysUptoRow.holds Try.pinned (OpenSpec.upto tapeKeysSpec)

/-- 'tabulariumlaw12.CmtTells', WHERE WHAT IT READS IS OF BULK AT MOST 1048576: true; the input reads as it did. -/
def cmtTellsUptoRow : OpenClaim := { program := "ytemhfociaikijaa", sum := "de2b8beb10a1adbeb299a13e948df3c5939a6decdd4a0b628af076c7cf5a0e78", func := "tabularium/tabulariumlaw12.CmtTells", spec := "cmtTells", apart := false, narrowed := true }
def CmtTellsUptoSaid : Prop := cmtTellsUptoRow.holds Try.pinned (OpenSpec.upto cmtTellsSpec)

/-- 'tabulariumlaw10.RouteNames', WHERE WHAT IT READS IS OF BULK AT MOST 1048576: true; the input reads as it did. -/
def routeNamesUptoRow : OpenClaim := { program := "ytemhfociaikijaa", sum := "de2b8beb10a1adbeb299a13e948df3c5939a6decdd4a0b628af076c7cf5a0e78", func := "tabularium/tabulariumlaw10.RouteNames", spec := "routeNames", unfollowed := true, recurses := true, apart := false, narrowed := true }
def RouteNamesUptoSaid : Prop := routeNamesUptoRow.holds Try.pinned (OpenSpec.upto routeNamesSpec)

/-- 'tabulariumlaw10.RouteSplits', WHERE WHAT IT READS IS OF BULK AT MOST 1048576: true; the input reads as it did. -/
def routeSplitsUptoRow : OpenClaim := { program := "ytemhfociaikijaa", sum := "de2b8beb10a1adbeb299a13e948df3c5939a6decdd4a0b628af076c7cf5a0e78", func := "tabularium/tabulariumlaw10.RouteSplits", spec := "routeSplits", unfollowed := true, recurses := true, apart := false, narrowed := true }
def RouteSplitsUptoSaid : Prop := routeSplitsUptoRow.holds Try.pinned (OpenSpec.upto routeSplitsSpec)

/-- 'tabulariumlaw10.RouteBack', WHERE WHAT IT READS IS OF BULK AT MOST 1048576: true; the input reads as it did. -/
def routeBackUptoRow : OpenClaim := { program := "ytemhfociaikijaa", sum := "de2b8beb10a1adbeb299a13e948df3c5939a6decdd4a0b628af076c7cf5a0e78", func := "tabularium/tabulariumlaw10.RouteBack", spec := "routeBack", unfollowed := true, recurses := true, apart := false, narrowed := true }
def RouteBackUptoSaid : Prop := routeBackUptoRow.holds Try.pinned (OpenSpec.upto routeBackSpec)

/-- 'tabulariumlaw09.EnvelPuts', WHERE WHAT IT READS IS OF BULK AT MOST 1048576: true; the input reads as it did. -/
def envelPutsUptoRow : OpenClaim := { program := "ytemhfociaikijaa", sum := "de2b8beb10a1adbeb299a13e948df3c5939a6decdd4a0b628af076c7cf5a0e78", func := "tabularium/tabulariumlaw09.EnvelPuts", spec := "envelPuts", inPlace := ["internal/bytealg.Compare"], unfollowed := true, recurses := true, apart := false, narrowed := true }
def EnvelPutsUptoSaid : Prop := envelPutsUptoRow.holds Try.pinned (OpenSpec.upto envelPutsSpec)

/-- 'tabulariumlaw11.DirPuts', WHERE WHAT IT READS IS OF BULK AT MOST 1048576: true; the input reads as it did. -/
def dirPutsUptoRow : OpenClaim := { program := "ytemhfociaikijaa", sum := "de2b8beb10a1adbeb299a13e948df3c5939a6decdd4a0b628af076c7cf5a0e78", func := "tabularium/tabulariumlaw11.DirPuts", spec := "dirPuts", inPlace := ["internal/bytealg.Compare"], apart := false, narrowed := true }
def DirPutsUptoSaid : Prop := dirPutsUptoRow.holds Try.pinned (OpenSpec.upto dirPutsSpec)

end Rows
end Go.Proofs.Ytemhfociaikijaa
