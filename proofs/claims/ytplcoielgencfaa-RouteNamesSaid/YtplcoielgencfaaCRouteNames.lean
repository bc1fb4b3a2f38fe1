/- The law RouteNames: names, and what a path is under. -/
import Derived.Test.YtplcoielgencfaaCGoodRef
import Derived.Test.YtplcoielgencfaaCAwake10
import Derived.Test.YtplcoielgencfaaCUnder
import Derived.Test.YtplcoielgencfaaCB2
namespace Go.Proofs.Ytplcoielgencfaa
open Go.RowKit

set_option maxRecDepth 100000 in
theorem walk_RouteNames {w : World} {s t : List UInt8} (_ : s.length ≤ maxLen) (_ : t.length ≤ maxLen) : Calls Try.prog 3 #[.string (str s), .string (str t)] w fun e w' => e = .returned (.bool true) ∧ Below w.heap.size w w' := by
  have hsz := str_size s
  have htz := str_size t
  by_cases hs : 500 < s.length
  · go_enter Try.func3, Try.ntmps3
    go_wp2_with (go_at_call 7; refine (route_awake _).mono ?_; rintro e w1 ⟨rfl, hS1⟩)
    go_ret
    exact ⟨rfl, hS1.below⟩
  by_cases ht : 500 < t.length
  · go_enter Try.func3, Try.ntmps3
    go_wp2_with (go_at_call 7; refine (route_awake _).mono ?_; rintro e w1 ⟨rfl, hS1⟩)
    go_ret
    exact ⟨rfl, hS1.below⟩
  have hself := under_self s
  go_enter Try.func3, Try.ntmps3
  go_wp2_with (first
    | (go_at_call 7; refine (route_awake _).mono ?_; rintro e w1 ⟨rfl, hS1⟩)
    | (go_at_call 8; refine good_code.mono ?_; rintro e w2 ⟨rfl, hS2⟩)
    | (go_at_call 9; refine (good_ref (by omega)).mono ?_; rintro e w3 ⟨rfl, rfl⟩)
    | (go_at_call 10; refine (under_code (by omega) (by omega)).mono ?_; rintro e w4 ⟨rfl, rfl⟩)
    | (go_at_call 11; refine (under_ref (by omega) (by omega)).mono ?_; rintro e w5 ⟨rfl, rfl⟩))
  go_ret
  exact ⟨rfl, (hS1.tr hS2).below⟩
end Go.Proofs.Ytplcoielgencfaa
