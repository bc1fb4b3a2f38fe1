/- The sum of any bytes, held against the reference's. -/
import Derived.Test.YtjmjdffnakojpaaRefSum
import Derived.Test.YtjmjdffnakojpaaAwake02
namespace Go.Proofs.Ytjmjdffnakojpaa
open Go.RowKit
set_option linter.unusedVariables false
set_option linter.unusedSimpArgs false

set_option maxRecDepth 100000 in
theorem walk_ShaSums {w0 : World} {l : List UInt8} {A : Option Addr} {n c : Nat} (hl : Sl w0 A n c 1 (u8s l)) :
    Calls Try.prog 3 #[.slice A n c] w0 fun e w' => e = .returned (.bool true) ∧ Below w0.heap.size w0 w' := by
  have h := St.read0 hl (by omega)
  have hsl := sumM_length l
  clear hl
  by_cases hn : n ≤ 1000
  · have hd : decide ((1000 : Int) < (n : Int)) = false := by simp; omega
    go_enter Try.func3, Try.ntmps3
    go_wp2_with (first
      | (go_at_call 12; refine (sha_awake _).mono ?_; rintro e w ⟨rfl, hs⟩; replace h := h.quiet hs; clear hs)
      | (go_at_call 13; refine (sum_code (h.sl A n c) (by omega)).mono ?_; rintro e w ⟨rfl, hs⟩; replace h := h.quiet hs; clear hs)
      | (go_at_call 14; refine (sum_ref (h.sl A n c) (by omega)).mono ?_; rintro e w ⟨rfl, hs⟩; replace h := h.quiet hs; clear hs)
      | (refine wl_reads rfl (ex_eq _ _ _ _ rfl (sumM l) (sumM l) rfl rfl hsl hsl true (by simp)) ?_))
    go_ret
    exact ⟨rfl, h.step.below⟩
  · have hd : decide ((1000 : Int) < (n : Int)) = true := by simp; omega
    go_enter Try.func3, Try.ntmps3
    go_wp2_with (first
      | (go_at_call 12; refine (sha_awake _).mono ?_; rintro e w ⟨rfl, hs⟩; replace h := h.quiet hs; clear hs))
    go_ret
    exact ⟨rfl, h.step.below⟩
end Go.Proofs.Ytjmjdffnakojpaa
