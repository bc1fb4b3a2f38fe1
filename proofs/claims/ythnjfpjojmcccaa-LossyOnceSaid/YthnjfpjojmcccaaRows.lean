/-
  No cell of these rows narrows 'for every input' (looked for: loops, veiled, ifaces, maps, wideKeys, modest, calm, conditions, laid).
  DERIVED. THE GIVEN ROWS OF THIS SEAT. 7 by the template 'for every input the law returns true; each argument reads behind the call as it read before'; 0 by the template 'total and deterministic' (their statements: YthnjfpjojmcccaaTotals.lean).
  GIVEN WITH THE SEED: the statements are not yours to turn. If you find one false, say at which input.
  Laid BY PROGRAM, IN A SANDBOX (cutbox-rows.mjs): the forced cells as the released guide's own fill.sh prints them over the translation dfad135603a346b1… (all of the seat's roots in one cut). By AI agents, Wed Nov 11 2026. No macro, syntax, notation, axiom, sorry.
-/
import Derived.Test.YthnjfpjojmcccaaChecked
import GoSem.Claim
import GoSem.ClaimJoined
import GoSem.ClaimMapViews
import Derived.JoinedTies
import Derived.KernelRfl
namespace Go.Proofs.Ythnjfpjojmcccaa
/- THE CELL 'sum', in the pinned program and in every row, IS THE sha256 OF THE DUMP (.gsa) THAT YthnjfpjojmcccaaProg.lean LOADS. Nothing in Lean hashes anything: it is a label: what it is worth is what the hold of that sum in a sandbox is worth. -/
noncomputable def Try.pinned : Pinned := { name := "ythnjfpjojmcccaa", sum := "dfad135603a346b19fa5e64879c4138fe5234d1dc1f15fa171c7de88478f3662", checked := Try.checked }
namespace Rows
def none {H : Type} : Left H := { results := [], args := [] }

/-- 'tabulariumlaw22.AclRevokes': WHATEVER THE INPUT: true; the input reads as it did. -/
def aclRevokesSpec : ChangeSpec := { name := "aclRevokes", fn := fun _ => fun
  | [d1, d2, d3, d4] => { results := [.lit (.bool true)], args := [d1, d2, d3, d4] }
  | _ => none }
def aclRevokesRow : OpenClaim := { program := "ythnjfpjojmcccaa", sum := "dfad135603a346b19fa5e64879c4138fe5234d1dc1f15fa171c7de88478f3662", func := "tabularium/tabulariumlaw22.AclRevokes", spec := "aclRevokes", unfollowed := true, recurses := true, plainKeys := false, apart := false }
def AclRevokesSaid : Prop := aclRevokesRow.holds Try.pinned (OpenSpec.ofChange aclRevokesSpec)

/-- ITS FALSE NEIGHBOUR: 'it returns false'. Refute it at one input. -/
def aclRevokesWrong : ChangeSpec := { name := "aclRevokes", fn := fun _ => fun
  | [d1, d2, d3, d4] => { results := [.lit (.bool false)], args := [d1, d2, d3, d4] }
  | _ => none }
def AclRevokesWrongFalsely : Prop := aclRevokesRow.holds Try.pinned (OpenSpec.ofChange aclRevokesWrong)

/-- 'tabulariumlaw22.AclNone': WHATEVER THE INPUT: true; the input reads as it did. -/
def aclNoneSpec : ChangeSpec := { name := "aclNone", fn := fun _ => fun
  | [d1, d2, d3] => { results := [.lit (.bool true)], args := [d1, d2, d3] }
  | _ => none }
def aclNoneRow : OpenClaim := { program := "ythnjfpjojmcccaa", sum := "dfad135603a346b19fa5e64879c4138fe5234d1dc1f15fa171c7de88478f3662", func := "tabularium/tabulariumlaw22.AclNone", spec := "aclNone", unfollowed := true, recurses := true, plainKeys := false, apart := false }
def AclNoneSaid : Prop := aclNoneRow.holds Try.pinned (OpenSpec.ofChange aclNoneSpec)

/-- ITS FALSE NEIGHBOUR: 'it returns false'. Refute it at one input. -/
def aclNoneWrong : ChangeSpec := { name := "aclNone", fn := fun _ => fun
  | [d1, d2, d3] => { results := [.lit (.bool false)], args := [d1, d2, d3] }
  | _ => none }
def AclNoneWrongFalsely : Prop := aclNoneRow.holds Try.pinned (OpenSpec.ofChange aclNoneWrong)

/-- 'tabulariumlaw22.AclDoes': WHATEVER THE INPUT: true; the input reads as it did. -/
def aclDoesSpec : ChangeSpec := { name := "aclDoes", fn := fun _ => fun
  | [d1, d2, d3, d4] => { results := [.lit (.bool true)], args := [d1, d2, d3, d4] }
  | _ => none }
def aclDoesRow : OpenClaim := { program := "ythnjfpjojmcccaa", sum := "dfad135603a346b19fa5e64879c4138fe5234d1dc1f15fa171c7de88478f3662", func := "tabularium/tabulariumlaw22.AclDoes", spec := "aclDoes", unfollowed := true, recurses := true, plainKeys := false, apart := false }
def AclDoesSaid : Prop := aclDoesRow.holds Try.pinned (OpenSpec.ofChange aclDoesSpec)

/-- ITS FALSE NEIGHBOUR: 'it returns false'. Refute it at one input. -/
def aclDoesWrong : ChangeSpec := { name := "aclDoes", fn := fun _ => fun
  | [d1, d2, d3, d4] => { results := [.lit (.bool false)], args := [d1, d2, d3, d4] }
  | _ => none }
def AclDoesWrongFalsely : Prop := aclDoesRow.holds Try.pinned (OpenSpec.ofChange aclDoesWrong)

/-- 'tabulariumlaw22.AclReaders': WHATEVER THE INPUT: true; the input reads as it did. -/
def aclReadersSpec : ChangeSpec := { name := "aclReaders", fn := fun _ => fun
  | [d1, d2, d3, d4, d5] => { results := [.lit (.bool true)], args := [d1, d2, d3, d4, d5] }
  | _ => none }
def aclReadersRow : OpenClaim := { program := "ythnjfpjojmcccaa", sum := "dfad135603a346b19fa5e64879c4138fe5234d1dc1f15fa171c7de88478f3662", func := "tabularium/tabulariumlaw22.AclReaders", spec := "aclReaders", unfollowed := true, recurses := true, plainKeys := false, apart := false }
def AclReadersSaid : Prop := aclReadersRow.holds Try.pinned (OpenSpec.ofChange aclReadersSpec)

/-- ITS FALSE NEIGHBOUR: 'it returns false'. Refute it at one input. -/
def aclReadersWrong : ChangeSpec := { name := "aclReaders", fn := fun _ => fun
  | [d1, d2, d3, d4, d5] => { results := [.lit (.bool false)], args := [d1, d2, d3, d4, d5] }
  | _ => none }
def AclReadersWrongFalsely : Prop := aclReadersRow.holds Try.pinned (OpenSpec.ofChange aclReadersWrong)

/-- 'tabulariumlaw19.LossyDoes': WHATEVER THE INPUT: true; the input reads as it did. -/
def lossyDoesSpec : ChangeSpec := { name := "lossyDoes", fn := fun _ => fun
  | [d1, d2, d3] => { results := [.lit (.bool true)], args := [d1, d2, d3] }
  | _ => none }
def lossyDoesRow : OpenClaim := { program := "ythnjfpjojmcccaa", sum := "dfad135603a346b19fa5e64879c4138fe5234d1dc1f15fa171c7de88478f3662", func := "tabularium/tabulariumlaw19.LossyDoes", spec := "lossyDoes", inPlace := ["slices.overlaps[tabularium/lossy.message]"], unfollowed := true, recurses := true, plainKeys := false, apart := false }
def LossyDoesSaid : Prop := lossyDoesRow.holds Try.pinned (OpenSpec.ofChange lossyDoesSpec)

/-- ITS FALSE NEIGHBOUR: 'it returns false'. Refute it at one input. -/
def lossyDoesWrong : ChangeSpec := { name := "lossyDoes", fn := fun _ => fun
  | [d1, d2, d3] => { results := [.lit (.bool false)], args := [d1, d2, d3] }
  | _ => none }
def LossyDoesWrongFalsely : Prop := lossyDoesRow.holds Try.pinned (OpenSpec.ofChange lossyDoesWrong)

/-- 'tabulariumlaw19.LossyNone': WHATEVER THE INPUT: true; the input reads as it did. -/
def lossyNoneSpec : ChangeSpec := { name := "lossyNone", fn := fun _ => fun
  | [d] => { results := [.lit (.bool true)], args := [d] }
  | _ => none }
def lossyNoneRow : OpenClaim := { program := "ythnjfpjojmcccaa", sum := "dfad135603a346b19fa5e64879c4138fe5234d1dc1f15fa171c7de88478f3662", func := "tabularium/tabulariumlaw19.LossyNone", spec := "lossyNone", inPlace := ["slices.overlaps[tabularium/lossy.message]"], unfollowed := true, recurses := true, plainKeys := false, apart := false }
def LossyNoneSaid : Prop := lossyNoneRow.holds Try.pinned (OpenSpec.ofChange lossyNoneSpec)

/-- ITS FALSE NEIGHBOUR: 'it returns false'. Refute it at one input. -/
def lossyNoneWrong : ChangeSpec := { name := "lossyNone", fn := fun _ => fun
  | [d] => { results := [.lit (.bool false)], args := [d] }
  | _ => none }
def LossyNoneWrongFalsely : Prop := lossyNoneRow.holds Try.pinned (OpenSpec.ofChange lossyNoneWrong)

/-- 'tabulariumlaw19.LossyOnce': WHATEVER THE INPUT: true; the input reads as it did. -/
def lossyOnceSpec : ChangeSpec := { name := "lossyOnce", fn := fun _ => fun
  | [d1, d2] => { results := [.lit (.bool true)], args := [d1, d2] }
  | _ => none }
def lossyOnceRow : OpenClaim := { program := "ythnjfpjojmcccaa", sum := "dfad135603a346b19fa5e64879c4138fe5234d1dc1f15fa171c7de88478f3662", func := "tabularium/tabulariumlaw19.LossyOnce", spec := "lossyOnce", inPlace := ["slices.overlaps[tabularium/lossy.message]"], unfollowed := true, recurses := true, plainKeys := false, apart := false }
def LossyOnceSaid : Prop := lossyOnceRow.holds Try.pinned (OpenSpec.ofChange lossyOnceSpec)

/-- ITS FALSE NEIGHBOUR: 'it returns false'. Refute it at one input. -/
def lossyOnceWrong : ChangeSpec := { name := "lossyOnce", fn := fun _ => fun
  | [d1, d2] => { results := [.lit (.bool false)], args := [d1, d2] }
  | _ => none }
def LossyOnceWrongFalsely : Prop := lossyOnceRow.holds Try.pinned (OpenSpec.ofChange lossyOnceWrong)

/- THE SECOND FORM. 'bulk': how many values and letters a reading holds, each counted each time it is reached (what is shared counts as often as it is met; a slice's spare places count too). A statement '..UptoSaid' is the law's where the arguments, and the package variables that the reading takes, are together of bulk at most 1048576: NARROWER than '..Said'. Prove '..Said' where nothing that the law and all that it calls make is longer than what came in: it says more and counts as full. Else prove '..UptoSaid'. A law counts once. -/
mutual
def uptoBulk {H : Type} : DataW H → Nat
  | .lit (.string bytes) => bytes.length + 1
  | .lit _ => 1
  | .nil => 1
  | .ptr d => uptoBulk d + 1
  | .slice elems spare => uptoBulkAll elems + uptoBulkAll spare + 1
  | .agg parts => uptoBulkAll parts + 1
  | .iface _ d => uptoBulk d + 1
  | .map entries => uptoBulkEntries entries + 1
  | .held _ => 1
def uptoBulkAll {H : Type} : List (DataW H) → Nat
  | [] => 0
  | d :: r => uptoBulk d + uptoBulkAll r
def uptoBulkEntries {H : Type} : List (Lit × DataW H) → Nat
  | [] => 0
  | x :: r => uptoBulkEntry x + uptoBulkEntries r
def uptoBulkEntry {H : Type} : Lit × DataW H → Nat
  | (.string bytes, d) => bytes.length + uptoBulk d + 1
  | (_, d) => uptoBulk d + 1
 end
def uptoSmall : (H : Type) → List (DataW H) → Bool := fun _ ds => decide (uptoBulkAll ds ≤ 1048576)
def OpenSpec.upto (s : _root_.Go.ChangeSpec) : _root_.Go.OpenSpec := { _root_.Go.OpenSpec.ofChange s with cond := some uptoSmall }

/-- 'tabulariumlaw22.AclRevokes', WHERE WHAT IT READS IS OF BULK AT MOST 1048576: true; the input reads as it did. -/
def aclRevokesUptoRow : OpenClaim := { program := "ythnjfpjojmcccaa", sum := "dfad135603a346b19fa5e64879c4138fe5234d1dc1f15fa171c7de88478f3662", func := "tabularium/tabulariumlaw22.AclRevokes", spec := "aclRevokes", unfollowed := true, recurses := true, plainKeys := false, apart := false, narrowed := true }
def AclRevokesUptoSaid : Prop := aclRevokesUptoRow.holds Try.pinned (OpenSpec.upto aclRevokesSpec)

/-- 'tabulariumlaw22.AclNone', WHERE WHAT IT READS IS OF BULK AT MOST 1048576: true; the input reads as it did. -/
def aclNoneUptoRow : OpenClaim := { program := "ythnjfpjojmcccaa", sum := "dfad135603a346b19fa5e64879c4138fe5234d1dc1f15fa171c7de88478f3662", func := "tabularium/tabulariumlaw22.AclNone", spec := "aclNone", unfollowed := true, recurses := true, plainKeys := false, apart := false, narrowed := true }
def AclNoneUptoSaid : Prop := aclNoneUptoRow.holds Try.pinned (OpenSpec.upto aclNoneSpec)

/-- 'tabulariumlaw22.AclDoes', WHERE WHAT IT READS IS OF BULK AT MOST 1048576: true; the input reads as it did. -/
def aclDoesUptoRow : OpenClaim := { program := "ythnjfpjojmcccaa", sum := "dfad135603a346b19fa5e64879c4138fe5234d1dc1f15fa171c7de88478f3662", func := "tabularium/tabulariumlaw22.AclDoes", spec := "aclDoes", unfollowed := true, recurses := true, plainKeys := false, apart := false, narrowed := true }
def AclDoesUptoSaid : Prop := aclDoesUptoRow.holds Try.pinned (OpenSpec.upto aclDoesSpec)

/-- 'tabulariumlaw22.AclReaders', WHERE WHAT IT READS IS OF BULK AT MOST 1048576: true; the input reads as it did. -/
def aclReadersUptoRow : OpenClaim := { program := "ythnjfpjojmcccaa", sum := "dfad135603a346b19fa5e64879c4138fe5234d1dc1f15fa171c7de88478f3662", func := "tabularium/tabulariumlaw22.AclReaders", spec := "aclReaders", unfollowed := true, recurses := true, plainKeys := false, apart := false, narrowed := true }
def AclReadersUptoSaid : Prop := aclReadersUptoRow.holds Try.pinned (OpenSpec.upto aclReadersSpec)

/-- 'tabulariumlaw19.LossyDoes', WHERE WHAT IT READS IS OF BULK AT MOST 1048576: true; the input reads as it did. -/
def lossyDoesUptoRow : OpenClaim := { program := "ythnjfpjojmcccaa", sum := "dfad135603a346b19fa5e64879c4138fe5234d1dc1f15fa171c7de88478f3662", func := "tabularium/tabulariumlaw19.LossyDoes", spec := "lossyDoes", inPlace := ["slices.overlaps[tabularium/lossy.message]"], unfollowed := true, recurses := true, plainKeys := false, apart := false, narrowed := true }
def LossyDoesUptoSaid : Prop := lossyDoesUptoRow.holds Try.pinned (OpenSpec.upto lossyDoesSpec)

/-- 'tabulariumlaw19.LossyNone', WHERE WHAT IT READS IS OF BULK AT MOST 1048576: true; the input reads as it did. -/
def lossyNoneUptoRow : OpenClaim := { program := "ythnjfpjojmcccaa", sum := "dfad135603a346b19fa5e64879c4138fe5234d1dc1f15fa171c7de88478f3662", func := "tabularium/tabulariumlaw19.LossyNone", spec := "lossyNone", inPlace := ["slices.overlaps[tabularium/lossy.message]"], unfollowed := true, recurses := true, plainKeys := false, apart := false, narrowed := true }
def LossyNoneUptoSaid : Prop := lossyNoneUptoRow.holds Try.pinned (OpenSpec.upto lossyNoneSpec)

/-- 'tabulariumlaw19.LossyOnce', WHERE WHAT IT READS IS OF BULK AT MOST 1048576: true; the input reads as it did. -/
def lossyOnceUptoRow : OpenClaim := { program := "ythnjfpjojmcccaa", sum := "dfad135603a346b19fa5e64879c4138fe5234d1dc1f15fa171c7de88478f3662", func := "tabularium/tabulariumlaw19.LossyOnce", spec := "lossyOnce", inPlace := ["slices.overlaps[tabularium/lossy.message]"], unfollowed := true, recurses := true, plainKeys := false, apart := false, narrowed := true }
def LossyOnceUptoSaid : Prop := lossyOnceUptoRow.holds Try.pinned (OpenSpec.upto lossyOnceSpec)

end Rows
end Go.Proofs.Ythnjfpjojmcccaa
