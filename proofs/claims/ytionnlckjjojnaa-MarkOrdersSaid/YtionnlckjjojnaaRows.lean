/-
  No cell of these rows narrows 'for every input' (looked for: loops, veiled, ifaces, maps, wideKeys, modest, calm, conditions, laid).
  DERIVED. THE GIVEN ROWS OF THIS SEAT. 8 by the template 'for every input the law returns true; each argument reads behind the call as it read before'; 0 by the template 'total and deterministic' (their statements: YtionnlckjjojnaaTotals.lean).
  GIVEN WITH THE SEED: the statements are not yours to turn. If you find one false, say at which input.
  Laid BY PROGRAM, IN A SANDBOX (cutbox-rows.mjs): the forced cells as the released guide's own fill.sh prints them over the translation 3f0996fa056bd669… (all of the seat's roots in one cut). By AI agents, Wed Nov 11 2026. No macro, syntax, notation, axiom, sorry.
-/
import Derived.Test.YtionnlckjjojnaaChecked
import GoSem.Claim
import GoSem.ClaimJoined
import GoSem.ClaimMapViews
import Derived.JoinedTies
import Derived.KernelRfl
namespace Go.Proofs.Ytionnlckjjojnaa
/- THE CELL 'sum', in the pinned program and in every row, IS THE sha256 OF THE DUMP (.gsa) THAT YtionnlckjjojnaaProg.lean LOADS. Nothing in Lean hashes anything: it is a label: what it is worth is what the hold of that sum in a sandbox is worth. -/
noncomputable def Try.pinned : Pinned := { name := "ytionnlckjjojnaa", sum := "3f0996fa056bd669b9e654b69c4d70b00b5bd4b1565ba5bb06cce254caf4da7d", checked := Try.checked }
namespace Rows
def none {H : Type} : Left H := { results := [], args := [] }

/-- 'tabulariumlaw15.MarkWalks': WHATEVER THE INPUT: true; the input reads as it did. -/
def markWalksSpec : ChangeSpec := { name := "markWalks", fn := fun _ => fun
  | [d1, d2, d3] => { results := [.lit (.bool true)], args := [d1, d2, d3] }
  | _ => none }
def markWalksRow : OpenClaim := { program := "ytionnlckjjojnaa", sum := "3f0996fa056bd669b9e654b69c4d70b00b5bd4b1565ba5bb06cce254caf4da7d", func := "tabularium/tabulariumlaw15.MarkWalks", spec := "markWalks", inPlace := ["internal/bytealg.Compare"], unfollowed := true, recurses := true, plainKeys := false, apart := false }
def MarkWalksSaid : Prop := markWalksRow.holds Try.pinned (OpenSpec.ofChange markWalksSpec)

/-- ITS FALSE NEIGHBOUR: 'it returns false'. Refute it at one input. -/
def markWalksWrong : ChangeSpec := { name := "markWalks", fn := fun _ => fun
  | [d1, d2, d3] => { results := [.lit (.bool false)], args := [d1, d2, d3] }
  | _ => none }
def MarkWalksWrongFalsely : Prop := markWalksRow.holds Try.pinned (OpenSpec.ofChange markWalksWrong)

/-- 'tabulariumlaw15.MarkSweeps': WHATEVER THE INPUT: true; the input reads as it did. -/
def markSweepsSpec : ChangeSpec := { name := "markSweeps", fn := fun _ => fun
  | [d1, d2] => { results := [.lit (.bool true)], args := [d1, d2] }
  | _ => none }
def markSweepsRow : OpenClaim := { program := "ytionnlckjjojnaa", sum := "3f0996fa056bd669b9e654b69c4d70b00b5bd4b1565ba5bb06cce254caf4da7d", func := "tabularium/tabulariumlaw15.MarkSweeps", spec := "markSweeps", inPlace := ["internal/bytealg.Compare"], unfollowed := true, recurses := true, plainKeys := false, apart := false }
def MarkSweepsSaid : Prop := markSweepsRow.holds Try.pinned (OpenSpec.ofChange markSweepsSpec)

/-- ITS FALSE NEIGHBOUR: 'it returns false'. Refute it at one input. -/
def markSweepsWrong : ChangeSpec := { name := "markSweeps", fn := fun _ => fun
  | [d1, d2] => { results := [.lit (.bool false)], args := [d1, d2] }
  | _ => none }
def MarkSweepsWrongFalsely : Prop := markSweepsRow.holds Try.pinned (OpenSpec.ofChange markSweepsWrong)

/-- 'tabulariumlaw15.MarkCloses': WHATEVER THE INPUT: true; the input reads as it did. -/
def markClosesSpec : ChangeSpec := { name := "markCloses", fn := fun _ => fun
  | [d1, d2] => { results := [.lit (.bool true)], args := [d1, d2] }
  | _ => none }
def markClosesRow : OpenClaim := { program := "ytionnlckjjojnaa", sum := "3f0996fa056bd669b9e654b69c4d70b00b5bd4b1565ba5bb06cce254caf4da7d", func := "tabularium/tabulariumlaw15.MarkCloses", spec := "markCloses", inPlace := ["internal/bytealg.Compare"], unfollowed := true, recurses := true, plainKeys := false, apart := false }
def MarkClosesSaid : Prop := markClosesRow.holds Try.pinned (OpenSpec.ofChange markClosesSpec)

/-- ITS FALSE NEIGHBOUR: 'it returns false'. Refute it at one input. -/
def markClosesWrong : ChangeSpec := { name := "markCloses", fn := fun _ => fun
  | [d1, d2] => { results := [.lit (.bool false)], args := [d1, d2] }
  | _ => none }
def MarkClosesWrongFalsely : Prop := markClosesRow.holds Try.pinned (OpenSpec.ofChange markClosesWrong)

/-- 'tabulariumlaw15.MarkOrders': WHATEVER THE INPUT: true; the input reads as it did. -/
def markOrdersSpec : ChangeSpec := { name := "markOrders", fn := fun _ => fun
  | [d] => { results := [.lit (.bool true)], args := [d] }
  | _ => none }
def markOrdersRow : OpenClaim := { program := "ytionnlckjjojnaa", sum := "3f0996fa056bd669b9e654b69c4d70b00b5bd4b1565ba5bb06cce254caf4da7d", func := "tabularium/tabulariumlaw15.MarkOrders", spec := "markOrders", inPlace := ["internal/bytealg.Compare"], unfollowed := true, recurses := true, plainKeys := false, apart := false }
def MarkOrdersSaid : Prop := markOrdersRow.holds Try.pinned (OpenSpec.ofChange markOrdersSpec)

/-- ITS FALSE NEIGHBOUR: 'it returns false'. Refute it at one input. -/
def markOrdersWrong : ChangeSpec := { name := "markOrders", fn := fun _ => fun
  | [d] => { results := [.lit (.bool false)], args := [d] }
  | _ => none }
def MarkOrdersWrongFalsely : Prop := markOrdersRow.holds Try.pinned (OpenSpec.ofChange markOrdersWrong)

/-- 'tabulariumlaw27.DagBases': WHATEVER THE INPUT: true; the input reads as it did. -/
def dagBasesSpec : ChangeSpec := { name := "dagBases", fn := fun _ => fun
  | [d1, d2, d3] => { results := [.lit (.bool true)], args := [d1, d2, d3] }
  | _ => none }
def dagBasesRow : OpenClaim := { program := "ytionnlckjjojnaa", sum := "3f0996fa056bd669b9e654b69c4d70b00b5bd4b1565ba5bb06cce254caf4da7d", func := "tabularium/tabulariumlaw27.DagBases", spec := "dagBases", unfollowed := true, recurses := true, plainKeys := false, apart := false }
def DagBasesSaid : Prop := dagBasesRow.holds Try.pinned (OpenSpec.ofChange dagBasesSpec)

/-- ITS FALSE NEIGHBOUR: 'it returns false'. Refute it at one input. -/
def dagBasesWrong : ChangeSpec := { name := "dagBases", fn := fun _ => fun
  | [d1, d2, d3] => { results := [.lit (.bool false)], args := [d1, d2, d3] }
  | _ => none }
def DagBasesWrongFalsely : Prop := dagBasesRow.holds Try.pinned (OpenSpec.ofChange dagBasesWrong)

/-- 'tabulariumlaw27.DagAncestors': WHATEVER THE INPUT: true; the input reads as it did. -/
def dagAncestorsSpec : ChangeSpec := { name := "dagAncestors", fn := fun _ => fun
  | [d1, d2, d3, d4] => { results := [.lit (.bool true)], args := [d1, d2, d3, d4] }
  | _ => none }
def dagAncestorsRow : OpenClaim := { program := "ytionnlckjjojnaa", sum := "3f0996fa056bd669b9e654b69c4d70b00b5bd4b1565ba5bb06cce254caf4da7d", func := "tabularium/tabulariumlaw27.DagAncestors", spec := "dagAncestors", unfollowed := true, recurses := true, plainKeys := false, apart := false }
def DagAncestorsSaid : Prop := dagAncestorsRow.holds Try.pinned (OpenSpec.ofChange dagAncestorsSpec)

/-- ITS FALSE NEIGHBOUR: 'it returns false'. Refute it at one input. -/
def dagAncestorsWrong : ChangeSpec := { name := "dagAncestors", fn := fun _ => fun
  | [d1, d2, d3, d4] => { results := [.lit (.bool false)], args := [d1, d2, d3, d4] }
  | _ => none }
def DagAncestorsWrongFalsely : Prop := dagAncestorsRow.holds Try.pinned (OpenSpec.ofChange dagAncestorsWrong)

/-- 'tabulariumlaw27.DagBetween': WHATEVER THE INPUT: true; the input reads as it did. -/
def dagBetweenSpec : ChangeSpec := { name := "dagBetween", fn := fun _ => fun
  | [d1, d2, d3] => { results := [.lit (.bool true)], args := [d1, d2, d3] }
  | _ => none }
def dagBetweenRow : OpenClaim := { program := "ytionnlckjjojnaa", sum := "3f0996fa056bd669b9e654b69c4d70b00b5bd4b1565ba5bb06cce254caf4da7d", func := "tabularium/tabulariumlaw27.DagBetween", spec := "dagBetween", unfollowed := true, recurses := true, plainKeys := false, apart := false }
def DagBetweenSaid : Prop := dagBetweenRow.holds Try.pinned (OpenSpec.ofChange dagBetweenSpec)

/-- ITS FALSE NEIGHBOUR: 'it returns false'. Refute it at one input. -/
def dagBetweenWrong : ChangeSpec := { name := "dagBetween", fn := fun _ => fun
  | [d1, d2, d3] => { results := [.lit (.bool false)], args := [d1, d2, d3] }
  | _ => none }
def DagBetweenWrongFalsely : Prop := dagBetweenRow.holds Try.pinned (OpenSpec.ofChange dagBetweenWrong)

/-- 'tabulariumlaw27.DagOrders': WHATEVER THE INPUT: true; the input reads as it did. -/
def dagOrdersSpec : ChangeSpec := { name := "dagOrders", fn := fun _ => fun
  | [d] => { results := [.lit (.bool true)], args := [d] }
  | _ => none }
def dagOrdersRow : OpenClaim := { program := "ytionnlckjjojnaa", sum := "3f0996fa056bd669b9e654b69c4d70b00b5bd4b1565ba5bb06cce254caf4da7d", func := "tabularium/tabulariumlaw27.DagOrders", spec := "dagOrders", unfollowed := true, recurses := true, plainKeys := false, apart := false }
def DagOrdersSaid : Prop := dagOrdersRow.holds Try.pinned (OpenSpec.ofChange dagOrdersSpec)

/-- ITS FALSE NEIGHBOUR: 'it returns false'. Refute it at one input. -/
def dagOrdersWrong : ChangeSpec := { name := "dagOrders", fn := fun _ => fun
  | [d] => { results := [.lit (.bool false)], args := [d] }
  | _ => none }
def DagOrdersWrongFalsely : Prop := dagOrdersRow.holds Try.pinned (OpenSpec.ofChange dagOrdersWrong)

/- THE SECOND FORM. 'bulk': how many values and letters a reading holds, each counted each time it is reached (what is shared counts as often as it is met; a slice's spare places count too). A statement '..UptoSaid' is the law's where the arguments, and the package variables that the reading takes, are together of bulk at most 1048576: NARROWER than '..Said'. Prove '..Said' where nothing that the law and all that it calls make is longer than what came in: it says more and counts as full. Else prove '..UptoSaid'. A law counts once. -/
mutual
def uptoBulk {H : Type} : DataW H → Nat
  | .lit (.string bytes) => bytes.length + 1
  | .lit _ => 1
  | .nil => 1
  | .ptr d => uptoBulk d + 1
  | .slice elems spare => uptoBulkAll elems + uptoBulkAll spare + 1
  | .agg parts => uptoBulkAll parts + 1
  | .iface _ d => uptoBulk d + 1
  | .map entries => uptoBulkEntries entries + 1
  | .held _ => 1
def uptoBulkAll {H : Type} : List (DataW H) → Nat
  | [] => 0
  | d :: r => uptoBulk d + uptoBulkAll r
def uptoBulkEntries {H : Type} : List (Lit × DataW H) → Nat
  | [] => 0
  | x :: r => uptoBulkEntry x + uptoBulkEntries r
def uptoBulkEntry {H : Type} : Lit × DataW H → Nat
  | (.string bytes, d) => bytes.length + uptoBulk d + 1
  | (_, d) => uptoBulk d + 1
 end
def uptoSmall : (H : Type) → List (DataW H) → Bool := fun _ ds => decide (uptoBulkAll ds ≤ 1048576)
def OpenSpec.upto (s : _root_.Go.ChangeSpec) : _root_.Go.OpenSpec := { _root_.Go.OpenSpec.ofChange s with cond := some uptoSmall }

/-- 'tabulariumlaw15.MarkWalks', WHERE WHAT IT READS IS OF BULK AT MOST 1048576: true; the input reads as it did. -/
def markWalksUptoRow : OpenClaim := { program := "ytionnlckjjojnaa", sum := "3f0996fa056bd669b9e654b69c4d70b00b5bd4b1565ba5bb06cce254caf4da7d", func := "tabularium/tabulariumlaw15.MarkWalks", spec := "markWalks", inPlace := ["internal/bytealg.Compare"], unfollowed := true, recurses := true, plainKeys := false, apart := false, narrowed := true }
def MarkWalksUptoSaid : Prop := markWalksUptoRow.holds Try.pinned (OpenSpec.upto markWalksSpec)

/-- 'tabulariumlaw15.MarkSweeps', WHERE WHAT IT READS IS OF BULK AT MOST 1048576: true; the input reads as it did. -/
def markSweepsUptoRow : OpenClaim := { program := "ytionnlckjjojnaa", sum := "3f0996fa056bd669b9e654b69c4d70b00b5bd4b1565ba5bb06cce254caf4da7d", func := "tabularium/tabulariumlaw15.MarkSweeps", spec := "markSweeps", inPlace := ["internal/bytealg.Compare"], unfollowed := true, recurses := true, plainKeys := false, apart := false, narrowed := true }
def MarkSweepsUptoSaid : Prop := markSweepsUptoRow.holds Try.pinned (OpenSpec.upto markSweepsSpec)

/-- 'tabulariumlaw15.MarkCloses', WHERE WHAT IT READS IS OF BULK AT MOST 1048576: true; the input reads as it did. -/
def markClosesUptoRow : OpenClaim := { program := "ytionnlckjjojnaa", sum := "3f0996fa056bd669b9e654b69c4d70b00b5bd4b1565ba5bb06cce254caf4da7d", func := "tabularium/tabulariumlaw15.MarkCloses", spec := "markCloses", inPlace := ["internal/bytealg.Compare"], unfollowed := true, recurses := true, plainKeys := false, apart := false, narrowed := true }
def MarkClosesUptoSaid : Prop := markClosesUptoRow.holds Try.pinned (OpenSpec.upto markClosesSpec)

/-- 'tabulariumlaw15.MarkOrders', WHERE WHAT IT READS IS OF BULK AT MOST 1048576: true; the input reads as it did. -/
def markOrdersUptoRow : OpenClaim := { program := "ytionnlckjjojnaa", sum := "3f0996fa056bd669b9e654b69c4d70b00b5bd4b1565ba5bb06cce254caf4da7d", func := "tabularium/tabulariumlaw15.MarkOrders", spec := "markOrders", inPlace := ["internal/bytealg.Compare"], unfollowed := true, recurses := true, plainKeys := false, apart := false, narrowed := true }
def MarkOrdersUptoSaid : Prop := markOrdersUptoRow.holds Try.pinned (OpenSpec.upto markOrdersSpec)

/-- 'tabulariumlaw27.DagBases', WHERE WHAT IT READS IS OF BULK AT MOST 1048576: true; the input reads as it did. -/
def dagBasesUptoRow : OpenClaim := { program := "ytionnlckjjojnaa", sum := "3f0996fa056bd669b9e654b69c4d70b00b5bd4b1565ba5bb06cce254caf4da7d", func := "tabularium/tabulariumlaw27.DagBases", spec := "dagBases", unfollowed := true, recurses := true, plainKeys := false, apart := false, narrowed := true }
def DagBasesUptoSaid : Prop := dagBasesUptoRow.holds Try.pinned (OpenSpec.upto dagBasesSpec)

/-- 'tabulariumlaw27.DagAncestors', WHERE WHAT IT READS IS OF BULK AT MOST 1048576: true; the input reads as it did. -/
def dagAncestorsUptoRow : OpenClaim := { program := "ytionnlckjjojnaa", sum := "3f0996fa056bd669b9e654b69c4d70b00b5bd4b1565ba5bb06cce254caf4da7d", func := "tabularium/tabulariumlaw27.DagAncestors", spec := "dagAncestors", unfollowed := true, recurses := true, plainKeys := false, apart := false, narrowed := true }
def DagAncestorsUptoSaid : Prop := dagAncestorsUptoRow.holds Try.pinned (OpenSpec.upto dagAncestorsSpec)

/-- 'tabulariumlaw27.DagBetween', WHERE WHAT IT READS IS OF BULK AT MOST 1048576: true; the input reads as it did. -/
def dagBetweenUptoRow : OpenClaim := { program := "ytionnlckjjojnaa", sum := "3f0996fa056bd669b9e654b69c4d70b00b5bd4b1565ba5bb06cce254caf4da7d", func := "tabularium/tabulariumlaw27.DagBetween", spec := "dagBetween", unfollowed := true, recurses := true, plainKeys := false, apart := false, narrowed := true }
def DagBetweenUptoSaid : Prop := dagBetweenUptoRow.holds Try.pinned (OpenSpec.upto dagBetweenSpec)

/-- 'tabulariumlaw27.DagOrders', WHERE WHAT IT READS IS OF BULK AT MOST 1048576: true; the input reads as it did. -/
def dagOrdersUptoRow : OpenClaim := { program := "ytionnlckjjojnaa", sum := "3f0996fa056bd669b9e654b69c4d70b00b5bd4b1565ba5bb06cce254caf4da7d", func := "tabularium/tabulariumlaw27.DagOrders", spec := "dagOrders", unfollowed := true, recurses := true, plainKeys := false, apart := false, narrowed := true }
def DagOrdersUptoSaid : Prop := dagOrdersUptoRow.holds Try.pinned (OpenSpec.upto dagOrdersSpec)

end Rows
end Go.Proofs.Ytionnlckjjojnaa
