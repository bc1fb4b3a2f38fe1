/-
  No cell of these rows narrows 'for every input' (looked for: loops, veiled, ifaces, maps, wideKeys, modest, calm, conditions, laid).
  DERIVED. THE GIVEN ROWS OF THIS SEAT. 7 by the template 'for every input the law returns true; each argument reads behind the call as it read before'; 0 by the template 'total and deterministic' (their statements: YtcmgjoamfjijhaaTotals.lean).
  GIVEN WITH THE SEED: the statements are not yours to turn. If you find one false, say at which input.
  Laid BY PROGRAM, IN A SANDBOX (cutbox-rows.mjs): the forced cells as the released guide's own fill.sh prints them over the translation 77eb956b39b1109e… (all of the seat's roots in one cut). By AI agents, Wed Nov 11 2026. No macro, syntax, notation, axiom, sorry.
-/
import Derived.Test.YtcmgjoamfjijhaaChecked
import GoSem.Claim
import GoSem.ClaimJoined
import GoSem.ClaimMapViews
import Derived.JoinedTies
import Derived.KernelRfl
namespace Go.Proofs.Ytcmgjoamfjijhaa
/- THE CELL 'sum', in the pinned program and in every row, IS THE sha256 OF THE DUMP (.gsa) THAT YtcmgjoamfjijhaaProg.lean LOADS. Nothing in Lean hashes anything: it is a label: what it is worth is what the hold of that sum in a sandbox is worth. -/
noncomputable def Try.pinned : Pinned := { name := "ytcmgjoamfjijhaa", sum := "77eb956b39b1109ec4c473f19f9e2e6303e842afb49f10159509de6c09a11c3c", checked := Try.checked }
namespace Rows
def none {H : Type} : Left H := { results := [], args := [] }

/-- 'tabulariumlaw07.SuiteSizes': WHATEVER THE INPUT: true; the input reads as it did. -/
def suiteSizesSpec : ChangeSpec := { name := "suiteSizes", fn := fun _ => fun
  | [d] => { results := [.lit (.bool true)], args := [d] }
  | _ => none }
def suiteSizesRow : OpenClaim := { program := "ytcmgjoamfjijhaa", sum := "77eb956b39b1109ec4c473f19f9e2e6303e842afb49f10159509de6c09a11c3c", func := "tabularium/tabulariumlaw07.SuiteSizes", spec := "suiteSizes", unfollowed := true, recurses := true, plainKeys := false, apart := false }
def SuiteSizesSaid : Prop := suiteSizesRow.holds Try.pinned (OpenSpec.ofChange suiteSizesSpec)

/-- ITS FALSE NEIGHBOUR: 'it returns false'. Refute it at one input. -/
def suiteSizesWrong : ChangeSpec := { name := "suiteSizes", fn := fun _ => fun
  | [d] => { results := [.lit (.bool false)], args := [d] }
  | _ => none }
def SuiteSizesWrongFalsely : Prop := suiteSizesRow.holds Try.pinned (OpenSpec.ofChange suiteSizesWrong)

/-- 'tabulariumlaw07.SuiteBlind': WHATEVER THE INPUT: true; the input reads as it did. -/
def suiteBlindSpec : ChangeSpec := { name := "suiteBlind", fn := fun _ => fun
  | [d1, d2, d3, d4, d5] => { results := [.lit (.bool true)], args := [d1, d2, d3, d4, d5] }
  | _ => none }
def suiteBlindRow : OpenClaim := { program := "ytcmgjoamfjijhaa", sum := "77eb956b39b1109ec4c473f19f9e2e6303e842afb49f10159509de6c09a11c3c", func := "tabularium/tabulariumlaw07.SuiteBlind", spec := "suiteBlind", unfollowed := true, recurses := true, plainKeys := false, apart := false }
def SuiteBlindSaid : Prop := suiteBlindRow.holds Try.pinned (OpenSpec.ofChange suiteBlindSpec)

/-- ITS FALSE NEIGHBOUR: 'it returns false'. Refute it at one input. -/
def suiteBlindWrong : ChangeSpec := { name := "suiteBlind", fn := fun _ => fun
  | [d1, d2, d3, d4, d5] => { results := [.lit (.bool false)], args := [d1, d2, d3, d4, d5] }
  | _ => none }
def SuiteBlindWrongFalsely : Prop := suiteBlindRow.holds Try.pinned (OpenSpec.ofChange suiteBlindWrong)

/-- 'tabulariumlaw07.SuiteBack': WHATEVER THE INPUT: true; the input reads as it did. -/
def suiteBackSpec : ChangeSpec := { name := "suiteBack", fn := fun _ => fun
  | [d1, d2, d3, d4, d5] => { results := [.lit (.bool true)], args := [d1, d2, d3, d4, d5] }
  | _ => none }
def suiteBackRow : OpenClaim := { program := "ytcmgjoamfjijhaa", sum := "77eb956b39b1109ec4c473f19f9e2e6303e842afb49f10159509de6c09a11c3c", func := "tabularium/tabulariumlaw07.SuiteBack", spec := "suiteBack", unfollowed := true, recurses := true, plainKeys := false, apart := false }
def SuiteBackSaid : Prop := suiteBackRow.holds Try.pinned (OpenSpec.ofChange suiteBackSpec)

/-- ITS FALSE NEIGHBOUR: 'it returns false'. Refute it at one input. -/
def suiteBackWrong : ChangeSpec := { name := "suiteBack", fn := fun _ => fun
  | [d1, d2, d3, d4, d5] => { results := [.lit (.bool false)], args := [d1, d2, d3, d4, d5] }
  | _ => none }
def SuiteBackWrongFalsely : Prop := suiteBackRow.holds Try.pinned (OpenSpec.ofChange suiteBackWrong)

/-- 'tabulariumlaw07.SuiteIdeal': WHATEVER THE INPUT: true; the input reads as it did. -/
def suiteIdealSpec : ChangeSpec := { name := "suiteIdeal", fn := fun _ => fun
  | [d1, d2, d3, d4, d5, d6] => { results := [.lit (.bool true)], args := [d1, d2, d3, d4, d5, d6] }
  | _ => none }
def suiteIdealRow : OpenClaim := { program := "ytcmgjoamfjijhaa", sum := "77eb956b39b1109ec4c473f19f9e2e6303e842afb49f10159509de6c09a11c3c", func := "tabularium/tabulariumlaw07.SuiteIdeal", spec := "suiteIdeal", unfollowed := true, recurses := true, plainKeys := false, apart := false }
def SuiteIdealSaid : Prop := suiteIdealRow.holds Try.pinned (OpenSpec.ofChange suiteIdealSpec)

/-- ITS FALSE NEIGHBOUR: 'it returns false'. Refute it at one input. -/
def suiteIdealWrong : ChangeSpec := { name := "suiteIdeal", fn := fun _ => fun
  | [d1, d2, d3, d4, d5, d6] => { results := [.lit (.bool false)], args := [d1, d2, d3, d4, d5, d6] }
  | _ => none }
def SuiteIdealWrongFalsely : Prop := suiteIdealRow.holds Try.pinned (OpenSpec.ofChange suiteIdealWrong)

/-- 'tabulariumlaw07.SuiteWraps': WHATEVER THE INPUT: true; the input reads as it did. -/
def suiteWrapsSpec : ChangeSpec := { name := "suiteWraps", fn := fun _ => fun
  | [d1, d2, d3, d4, d5] => { results := [.lit (.bool true)], args := [d1, d2, d3, d4, d5] }
  | _ => none }
def suiteWrapsRow : OpenClaim := { program := "ytcmgjoamfjijhaa", sum := "77eb956b39b1109ec4c473f19f9e2e6303e842afb49f10159509de6c09a11c3c", func := "tabularium/tabulariumlaw07.SuiteWraps", spec := "suiteWraps", unfollowed := true, recurses := true, plainKeys := false, apart := false }
def SuiteWrapsSaid : Prop := suiteWrapsRow.holds Try.pinned (OpenSpec.ofChange suiteWrapsSpec)

/-- ITS FALSE NEIGHBOUR: 'it returns false'. Refute it at one input. -/
def suiteWrapsWrong : ChangeSpec := { name := "suiteWraps", fn := fun _ => fun
  | [d1, d2, d3, d4, d5] => { results := [.lit (.bool false)], args := [d1, d2, d3, d4, d5] }
  | _ => none }
def SuiteWrapsWrongFalsely : Prop := suiteWrapsRow.holds Try.pinned (OpenSpec.ofChange suiteWrapsWrong)

/-- 'tabulariumlaw10.RouteBlinds': WHATEVER THE INPUT: true; the input reads as it did. -/
def routeBlindsSpec : ChangeSpec := { name := "routeBlinds", fn := fun _ => fun
  | [d1, d2, d3, d4, d5] => { results := [.lit (.bool true)], args := [d1, d2, d3, d4, d5] }
  | _ => none }
def routeBlindsRow : OpenClaim := { program := "ytcmgjoamfjijhaa", sum := "77eb956b39b1109ec4c473f19f9e2e6303e842afb49f10159509de6c09a11c3c", func := "tabularium/tabulariumlaw10.RouteBlinds", spec := "routeBlinds", unfollowed := true, recurses := true, plainKeys := false, apart := false }
def RouteBlindsSaid : Prop := routeBlindsRow.holds Try.pinned (OpenSpec.ofChange routeBlindsSpec)

/-- ITS FALSE NEIGHBOUR: 'it returns false'. Refute it at one input. -/
def routeBlindsWrong : ChangeSpec := { name := "routeBlinds", fn := fun _ => fun
  | [d1, d2, d3, d4, d5] => { results := [.lit (.bool false)], args := [d1, d2, d3, d4, d5] }
  | _ => none }
def RouteBlindsWrongFalsely : Prop := routeBlindsRow.holds Try.pinned (OpenSpec.ofChange routeBlindsWrong)

/-- 'tabulariumlaw09.EnvelIds': WHATEVER THE INPUT: true; the input reads as it did. -/
def envelIdsSpec : ChangeSpec := { name := "envelIds", fn := fun _ => fun
  | [d1, d2, d3, d4] => { results := [.lit (.bool true)], args := [d1, d2, d3, d4] }
  | _ => none }
def envelIdsRow : OpenClaim := { program := "ytcmgjoamfjijhaa", sum := "77eb956b39b1109ec4c473f19f9e2e6303e842afb49f10159509de6c09a11c3c", func := "tabularium/tabulariumlaw09.EnvelIds", spec := "envelIds", inPlace := ["internal/bytealg.Compare"], unfollowed := true, recurses := true, plainKeys := false, apart := false }
def EnvelIdsSaid : Prop := envelIdsRow.holds Try.pinned (OpenSpec.ofChange envelIdsSpec)

/-- ITS FALSE NEIGHBOUR: 'it returns false'. Refute it at one input. -/
def envelIdsWrong : ChangeSpec := { name := "envelIds", fn := fun _ => fun
  | [d1, d2, d3, d4] => { results := [.lit (.bool false)], args := [d1, d2, d3, d4] }
  | _ => none }
def EnvelIdsWrongFalsely : Prop := envelIdsRow.holds Try.pinned (OpenSpec.ofChange envelIdsWrong)

/- THE SECOND FORM. 'bulk': how many values and letters a reading holds, each counted each time it is reached (what is shared counts as often as it is met; a slice's spare places count too). A statement '..UptoSaid' is the law's where the arguments, and the package variables that the reading takes, are together of bulk at most 1048576: NARROWER than '..Said'. Prove '..Said' where nothing that the law and all that it calls make is longer than what came in: it says more and counts as full. Else prove '..UptoSaid'. A law counts once. -/
mutual
def uptoBulk {H : Type} : DataW H → Nat
  | .lit (.string bytes) => bytes.length + 1
  | .lit _ => 1
  | .nil => 1
  | .ptr d => uptoBulk d + 1
  | .slice elems spare => uptoBulkAll elems + uptoBulkAll spare + 1
  | .agg parts => uptoBulkAll parts + 1
  | .iface _ d => uptoBulk d + 1
  | .map entries => uptoBulkEntries entries + 1
  | .held _ => 1
def uptoBulkAll {H : Type} : List (DataW H) → Nat
  | [] => 0
  | d :: r => uptoBulk d + uptoBulkAll r
def uptoBulkEntries {H : Type} : List (Lit × DataW H) → Nat
  | [] => 0
  | x :: r => uptoBulkEntry x + uptoBulkEntries r
def uptoBulkEntry {H : Type} : Lit × DataW H → Nat
  | (.string bytes, d) => bytes.length + uptoBulk d + 1
  | (_, d) => uptoBulk d + 1
 end
def uptoSmall : (H : Type) → List (DataW H) → Bool := fun _ ds => decide (uptoBulkAll ds ≤ 1048576)
def OpenSpec.upto (s : _root_.Go.ChangeSpec) : _root_.Go.OpenSpec := { _root_.Go.OpenSpec.ofChange s with cond := some uptoSmall }

/-- 'tabulariumlaw07.SuiteSizes', WHERE WHAT IT READS IS OF BULK AT MOST 1048576: true; the input reads as it did. -/
def suiteSizesUptoRow : OpenClaim := { program := "ytcmgjoamfjijhaa", sum := "77eb956b39b1109ec4c473f19f9e2e6303e842afb49f10159509de6c09a11c3c", func := "tabularium/tabulariumlaw07.SuiteSizes", spec := "suiteSizes", unfollowed := true, recurses := true, plainKeys := false, apart := false, narrowed := true }
def SuiteSizesUptoSaid : Prop := suiteSizesUptoRow.holds Try.pinned (OpenSpec.upto suiteSizesSpec)

/-- 'tabulariumlaw07.SuiteBlind', WHERE WHAT IT READS IS OF BULK AT MOST 1048576: true; the input reads as it did. -/
def suiteBlindUptoRow : OpenClaim := { program := "ytcmgjoamfjijhaa", sum := "77eb956b39b1109ec4c473f19f9e2e6303e842afb49f10159509de6c09a11c3c", func := "tabularium/tabulariumlaw07.SuiteBlind", spec := "suiteBlind", unfollowed := true, recurses := true, plainKeys := false, apart := false, narrowed := true }
def SuiteBlindUptoSaid : Prop := suiteBlindUptoRow.holds Try.pinned (OpenSpec.upto suiteBlindSpec)

/-- 'tabulariumlaw07.SuiteBack', WHERE WHAT IT READS IS OF BULK AT MOST 1048576: true; the input reads as it did. -/
def suiteBackUptoRow : OpenClaim := { program := "ytcmgjoamfjijhaa", sum := "77eb956b39b1109ec4c473f19f9e2e6303e842afb49f10159509de6c09a11c3c", func := "tabularium/tabulariumlaw07.SuiteBack", spec := "suiteBack", unfollowed := true, recurses := true, plainKeys := false, apart := false, narrowed := true }
def SuiteBackUptoSaid : Prop := suiteBackUptoRow.holds Try.pinned (OpenSpec.upto suiteBackSpec)

/-- 'tabulariumlaw07.SuiteIdeal', WHERE WHAT IT READS IS OF BULK AT MOST 1048576: true; the input reads as it did. -/
def suiteIdealUptoRow : OpenClaim := { program := "ytcmgjoamfjijhaa", sum := "77eb956b39b1109ec4c473f19f9e2e6303e842afb49f10159509de6c09a11c3c", func := "tabularium/tabulariumlaw07.SuiteIdeal", spec := "suiteIdeal", unfollowed := true, recurses := true, plainKeys := false, apart := false, narrowed := true }
def SuiteIdealUptoSaid : Prop := suiteIdealUptoRow.holds Try.pinned (OpenSpec.upto suiteIdealSpec)

/-- 'tabulariumlaw07.SuiteWraps', WHERE WHAT IT READS IS OF BULK AT MOST 1048576: true; the input reads as it did. -/
def suiteWrapsUptoRow : OpenClaim := { program := "ytcmgjoamfjijhaa", sum := "77eb956b39b1109ec4c473f19f9e2e6303e842afb49f10159509de6c09a11c3c", func := "tabularium/tabulariumlaw07.SuiteWraps", spec := "suiteWraps", unfollowed := true, recurses := true, plainKeys := false, apart := false, narrowed := true }
def SuiteWrapsUptoSaid : Prop := suiteWrapsUptoRow.holds Try.pinned (OpenSpec.upto suiteWrapsSpec)

/-- 'tabulariumlaw10.RouteBlinds', WHERE WHAT IT READS IS OF BULK AT MOST 1048576: true; the input reads as it did. -/
def routeBlindsUptoRow : OpenClaim := { program := "ytcmgjoamfjijhaa", sum := "77eb956b39b1109ec4c473f19f9e2e6303e842afb49f10159509de6c09a11c3c", func := "tabularium/tabulariumlaw10.RouteBlinds", spec := "routeBlinds", unfollowed := true, recurses := true, plainKeys := false, apart := false, narrowed := true }
def RouteBlindsUptoSaid : Prop := routeBlindsUptoRow.holds Try.pinned (OpenSpec.upto routeBlindsSpec)

/-- 'tabulariumlaw09.EnvelIds', WHERE WHAT IT READS IS OF BULK AT MOST 1048576: true; the input reads as it did. -/
def envelIdsUptoRow : OpenClaim := { program := "ytcmgjoamfjijhaa", sum := "77eb956b39b1109ec4c473f19f9e2e6303e842afb49f10159509de6c09a11c3c", func := "tabularium/tabulariumlaw09.EnvelIds", spec := "envelIds", inPlace := ["internal/bytealg.Compare"], unfollowed := true, recurses := true, plainKeys := false, apart := false, narrowed := true }
def EnvelIdsUptoSaid : Prop := envelIdsUptoRow.holds Try.pinned (OpenSpec.upto envelIdsSpec)

end Rows
end Go.Proofs.Ytcmgjoamfjijhaa
