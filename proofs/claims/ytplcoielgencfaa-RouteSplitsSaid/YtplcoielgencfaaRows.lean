/-
  No cell of these rows narrows 'for every input' (looked for: loops, veiled, ifaces, maps, wideKeys, modest, calm, conditions, laid).
  DERIVED. THE GIVEN ROWS OF THIS SEAT. 4 by the template 'for every input the law returns true; each argument reads behind the call as it read before'; 0 by the template 'total and deterministic' (their statements: YtplcoielgencfaaTotals.lean).
  GIVEN WITH THE SEED: the statements are not yours to turn. If you find one false, say at which input.
  Laid BY PROGRAM, IN A SANDBOX (cutbox-rows.mjs): the forced cells as the released guide's own fill.sh prints them over the translation e639478441efd61c… (all of the seat's roots in one cut). By AI agents, Wed Nov 11 2026. No macro, syntax, notation, axiom, sorry.
-/
import Derived.Test.YtplcoielgencfaaChecked
import GoSem.Claim
import GoSem.ClaimJoined
import GoSem.ClaimMapViews
import Derived.JoinedTies
import Derived.KernelRfl
namespace Go.Proofs.Ytplcoielgencfaa
/- THE CELL 'sum', in the pinned program and in every row, IS THE sha256 OF THE DUMP (.gsa) THAT YtplcoielgencfaaProg.lean LOADS. Nothing in Lean hashes anything: it is a label: what it is worth is what the hold of that sum in a sandbox is worth. -/
noncomputable def Try.pinned : Pinned := { name := "ytplcoielgencfaa", sum := "e639478441efd61c302c3e55a73968d1bb9873075d5cdac81b112b0f770adce2", checked := Try.checked }
namespace Rows
def none {H : Type} : Left H := { results := [], args := [] }

/-- 'tabulariumlaw10.RouteNames': WHATEVER THE INPUT: true; the input reads as it did. -/
def routeNamesSpec : ChangeSpec := { name := "routeNames", fn := fun _ => fun
  | [d1, d2] => { results := [.lit (.bool true)], args := [d1, d2] }
  | _ => none }
def routeNamesRow : OpenClaim := { program := "ytplcoielgencfaa", sum := "e639478441efd61c302c3e55a73968d1bb9873075d5cdac81b112b0f770adce2", func := "tabularium/tabulariumlaw10.RouteNames", spec := "routeNames", unfollowed := true, recurses := true, plainKeys := false, apart := false }
def RouteNamesSaid : Prop := routeNamesRow.holds Try.pinned (OpenSpec.ofChange routeNamesSpec)

/-- ITS FALSE NEIGHBOUR: 'it returns false'. Refute it at one input. -/
def routeNamesWrong : ChangeSpec := { name := "routeNames", fn := fun _ => fun
  | [d1, d2] => { results := [.lit (.bool false)], args := [d1, d2] }
  | _ => none }
def RouteNamesWrongFalsely : Prop := routeNamesRow.holds Try.pinned (OpenSpec.ofChange routeNamesWrong)

/-- 'tabulariumlaw10.RouteSplits': WHATEVER THE INPUT: true; the input reads as it did. -/
def routeSplitsSpec : ChangeSpec := { name := "routeSplits", fn := fun _ => fun
  | [d1, d2] => { results := [.lit (.bool true)], args := [d1, d2] }
  | _ => none }
def routeSplitsRow : OpenClaim := { program := "ytplcoielgencfaa", sum := "e639478441efd61c302c3e55a73968d1bb9873075d5cdac81b112b0f770adce2", func := "tabularium/tabulariumlaw10.RouteSplits", spec := "routeSplits", unfollowed := true, recurses := true, plainKeys := false, apart := false }
def RouteSplitsSaid : Prop := routeSplitsRow.holds Try.pinned (OpenSpec.ofChange routeSplitsSpec)

/-- ITS FALSE NEIGHBOUR: 'it returns false'. Refute it at one input. -/
def routeSplitsWrong : ChangeSpec := { name := "routeSplits", fn := fun _ => fun
  | [d1, d2] => { results := [.lit (.bool false)], args := [d1, d2] }
  | _ => none }
def RouteSplitsWrongFalsely : Prop := routeSplitsRow.holds Try.pinned (OpenSpec.ofChange routeSplitsWrong)

/-- 'tabulariumlaw10.RouteBack': WHATEVER THE INPUT: true; the input reads as it did. -/
def routeBackSpec : ChangeSpec := { name := "routeBack", fn := fun _ => fun
  | [d] => { results := [.lit (.bool true)], args := [d] }
  | _ => none }
def routeBackRow : OpenClaim := { program := "ytplcoielgencfaa", sum := "e639478441efd61c302c3e55a73968d1bb9873075d5cdac81b112b0f770adce2", func := "tabularium/tabulariumlaw10.RouteBack", spec := "routeBack", unfollowed := true, recurses := true, plainKeys := false, apart := false }
def RouteBackSaid : Prop := routeBackRow.holds Try.pinned (OpenSpec.ofChange routeBackSpec)

/-- ITS FALSE NEIGHBOUR: 'it returns false'. Refute it at one input. -/
def routeBackWrong : ChangeSpec := { name := "routeBack", fn := fun _ => fun
  | [d] => { results := [.lit (.bool false)], args := [d] }
  | _ => none }
def RouteBackWrongFalsely : Prop := routeBackRow.holds Try.pinned (OpenSpec.ofChange routeBackWrong)

/-- 'tabulariumlaw10.RouteBlinds': WHATEVER THE INPUT: true; the input reads as it did. -/
def routeBlindsSpec : ChangeSpec := { name := "routeBlinds", fn := fun _ => fun
  | [d1, d2, d3, d4, d5] => { results := [.lit (.bool true)], args := [d1, d2, d3, d4, d5] }
  | _ => none }
def routeBlindsRow : OpenClaim := { program := "ytplcoielgencfaa", sum := "e639478441efd61c302c3e55a73968d1bb9873075d5cdac81b112b0f770adce2", func := "tabularium/tabulariumlaw10.RouteBlinds", spec := "routeBlinds", unfollowed := true, recurses := true, plainKeys := false, apart := false }
def RouteBlindsSaid : Prop := routeBlindsRow.holds Try.pinned (OpenSpec.ofChange routeBlindsSpec)

/-- ITS FALSE NEIGHBOUR: 'it returns false'. Refute it at one input. -/
def routeBlindsWrong : ChangeSpec := { name := "routeBlinds", fn := fun _ => fun
  | [d1, d2, d3, d4, d5] => { results := [.lit (.bool false)], args := [d1, d2, d3, d4, d5] }
  | _ => none }
def RouteBlindsWrongFalsely : Prop := routeBlindsRow.holds Try.pinned (OpenSpec.ofChange routeBlindsWrong)

/- THE SECOND FORM. 'bulk': how many values and letters a reading holds, each counted each time it is reached (what is shared counts as often as it is met; a slice's spare places count too). A statement '..UptoSaid' is the law's where the arguments, and the package variables that the reading takes, are together of bulk at most 1048576: NARROWER than '..Said'. Prove '..Said' where nothing that the law and all that it calls make is longer than what came in: it says more and counts as full. Else prove '..UptoSaid'. A law counts once. -/
mutual
def uptoBulk {H : Type} : DataW H → Nat
  | .lit (.string bytes) => bytes.length + 1
  | .lit _ => 1
  | .nil => 1
  | .ptr d => uptoBulk d + 1
  | .slice elems spare => uptoBulkAll elems + uptoBulkAll spare + 1
  | .agg parts => uptoBulkAll parts + 1
  | .iface _ d => uptoBulk d + 1
  | .map entries => uptoBulkEntries entries + 1
  | .held _ => 1
def uptoBulkAll {H : Type} : List (DataW H) → Nat
  | [] => 0
  | d :: r => uptoBulk d + uptoBulkAll r
def uptoBulkEntries {H : Type} : List (Lit × DataW H) → Nat
  | [] => 0
  | x :: r => uptoBulkEntry x + uptoBulkEntries r
def uptoBulkEntry {H : Type} : Lit × DataW H → Nat
  | (.string bytes, d) => bytes.length + uptoBulk d + 1
  | (_, d) => uptoBulk d + 1
 end
def uptoSmall : (H : Type) → List (DataW H) → Bool := fun _ ds => decide (uptoBulkAll ds ≤ 1048576)
def OpenSpec.upto (s : _root_.Go.ChangeSpec) : _root_.Go.OpenSpec := { _root_.Go.OpenSpec.ofChange s with cond := some uptoSmall }

/-- 'tabulariumlaw10.RouteNames', WHERE WHAT IT READS IS OF BULK AT MOST 1048576: true; the input reads as it did. -/
def routeNamesUptoRow : OpenClaim := { program := "ytplcoielgencfaa", sum := "e639478441efd61c302c3e55a73968d1bb9873075d5cdac81b112b0f770adce2", func := "tabularium/tabulariumlaw10.RouteNames", spec := "routeNames", unfollowed := true, recurses := true, plainKeys := false, apart := false, narrowed := true }
def RouteNamesUptoSaid : Prop := routeNamesUptoRow.holds Try.pinned (OpenSpec.upto routeNamesSpec)

/-- 'tabulariumlaw10.RouteSplits', WHERE WHAT IT READS IS OF BULK AT MOST 1048576: true; the input reads as it did. -/
def routeSplitsUptoRow : OpenClaim := { program := "ytplcoielgencfaa", sum := "e639478441efd61c302c3e55a73968d1bb9873075d5cdac81b112b0f770adce2", func := "tabularium/tabulariumlaw10.RouteSplits", spec := "routeSplits", unfollowed := true, recurses := true, plainKeys := false, apart := false, narrowed := true }
def RouteSplitsUptoSaid : Prop := routeSplitsUptoRow.holds Try.pinned (OpenSpec.upto routeSplitsSpec)

/-- 'tabulariumlaw10.RouteBack', WHERE WHAT IT READS IS OF BULK AT MOST 1048576: true; the input reads as it did. -/
def routeBackUptoRow : OpenClaim := { program := "ytplcoielgencfaa", sum := "e639478441efd61c302c3e55a73968d1bb9873075d5cdac81b112b0f770adce2", func := "tabularium/tabulariumlaw10.RouteBack", spec := "routeBack", unfollowed := true, recurses := true, plainKeys := false, apart := false, narrowed := true }
def RouteBackUptoSaid : Prop := routeBackUptoRow.holds Try.pinned (OpenSpec.upto routeBackSpec)

/-- 'tabulariumlaw10.RouteBlinds', WHERE WHAT IT READS IS OF BULK AT MOST 1048576: true; the input reads as it did. -/
def routeBlindsUptoRow : OpenClaim := { program := "ytplcoielgencfaa", sum := "e639478441efd61c302c3e55a73968d1bb9873075d5cdac81b112b0f770adce2", func := "tabularium/tabulariumlaw10.RouteBlinds", spec := "routeBlinds", unfollowed := true, recurses := true, plainKeys := false, apart := false, narrowed := true }
def RouteBlindsUptoSaid : Prop := routeBlindsUptoRow.holds Try.pinned (OpenSpec.upto routeBlindsSpec)

end Rows
end Go.Proofs.Ytplcoielgencfaa
