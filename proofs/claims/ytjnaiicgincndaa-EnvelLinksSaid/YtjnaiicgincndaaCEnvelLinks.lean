/- The law EnvelLinks: the ids of any list, each once, rising. -/
import Derived.Test.YtjnaiicgincndaaCEnvLinks
import Derived.Test.YtjnaiicgincndaaCRefLinks
import Derived.Test.YtjnaiicgincndaaCIdsSame
import Derived.Test.YtjnaiicgincndaaCAwake09
namespace Go.Proofs.Ytjnaiicgincndaa
open Go.RowKit
set_option linter.unusedVariables false
set_option linter.unusedSimpArgs false

set_option maxRecDepth 100000 in
set_option maxHeartbeats 1000000 in
theorem walk_EnvelLinks {w0 : World} {A : Option Addr} {n c : Nat} {l : List Id} (hl : Sl w0 A n c 32 (l.flatMap idc)) :
    Calls Try.prog 8 #[.slice A n c] w0 fun e w' => e = .returned (.bool true) ∧ Below w0.heap.size w0 w' := by
  have h := St.read0 hl (by omega)
  have hn := hl.n_flat idc_length (by omega)
  subst hn
  clear hl
  by_cases c1 : 60 < l.length
  · go_enter Try.func8, Try.ntmps8
    go_wp2_with (first
      | (go_at_call 23; refine (envel_awake _).mono ?_; rintro r w ⟨rfl, hs⟩; replace h := h.quiet hs; clear hs))
    go_ret
    exact ⟨rfl, h.step.below⟩
  · have hlm := linksM_length l
    obtain ⟨M, hM⟩ : ∃ M, linksM l = M := ⟨_, rfl⟩
    have HM := Lib.hid hM
    rw [hM] at hlm
    clear hM
    go_enter Try.func8, Try.ntmps8
    go_wp2_with (first
      | (go_at_call 23; refine (envel_awake _).mono ?_; rintro r w ⟨rfl, hs⟩; replace h := h.quiet hs; clear hs)
      | (go_at_call 29; refine (env_links (A := A) (n := l.length) (c := c) (l := l) h (by omega)).mono ?_; rw [HM.out]; clear h; rintro r w ⟨A1, d1, rfl, h⟩)
      | (go_at_call 30; refine (ref_links (A := A) (n := l.length) (c := c) (l := l) h (by omega)).mono ?_; rw [HM.out]; clear h; rintro r w ⟨A2, d2, rfl, h⟩)
      | (go_at_call 20; refine (same_ids (h.sl A1 M.length d1) (h.sl A2 M.length d2) (by omega)).mono ?_; rw [decide_eq_true (rfl : M = M)]; rintro r w ⟨rfl, q, rfl⟩; replace h := h.quiet ((Step.refl (fun _ => False) _).drewN q)))
    go_ret
    exact ⟨rfl, h.step.below⟩
end Go.Proofs.Ytjnaiicgincndaa
