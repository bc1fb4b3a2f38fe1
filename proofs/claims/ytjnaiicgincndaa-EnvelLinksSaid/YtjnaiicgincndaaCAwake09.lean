/- The example of chapter 9; which envelopes are small. -/
import Derived.Test.YtjnaiicgincndaaCRefPut
namespace Go.Proofs.Ytjnaiicgincndaa
open Go.RowKit

def env0 : Env := ⟨1, 0, 0, [], []⟩
theorem env0_may : mayM env0 = true := by decide
theorem env0_put : putB env0 = [1, 0, 0, 0, 0] := by
  have h0 : nM 0 = [0] := by rw [nM_small (by omega)]; rfl
  have h1 : nM 1 = [1] := by rw [nM_small (by omega)]; rfl
  simp [putB, adB, env0, h0, h1, idsB]
theorem env0_is (w : World) : EnvIs w env0 none 0 0 none 0 0 := ⟨Sl.nil _ _, Sl.nil _ _, by decide, by decide, by decide⟩

set_option maxRecDepth 100000 in
theorem envel_awake (w : World) : Calls Try.prog 23 #[] w fun e w' => e = .returned (.bool true) ∧ Step (fun _ => False) w w' := by
  have hmay := env0_may
  go_enter Try.func23, Try.ntmps23
  go_wp2_with (go_at_call 28; refine (put_code (env0_is _) (by omega) (by omega)).mono ?_; rintro r w1 ⟨A, n, c, rfl, hs1, hS1, _⟩; rw [if_pos hmay] at hs1; rw [if_pos hmay]; rw [env0_put] at hs1; have hn : n = 5 := (hs1.n_eq); clear hmay; subst hn; obtain ⟨b, off, rfl, _, hc⟩ := hs1.pos (by decide); have hc0 : w1.cell? ⟨b, off, none⟩ = some (.int .u8 1) := hc 0 _ rfl; have hc4 : w1.cell? ⟨b, off + 4, none⟩ = some (.int .u8 0) := hc 4 _ rfl)
  go_ret
  exact ⟨rfl, hS1⟩

set_option maxRecDepth 100000 in
theorem few_env {w : World} {e : Env} {A B : Option Addr} {n c m d : Nat} :
    Calls Try.prog 27 #[.agg #[.int .i64 e.kind, .int .u32 e.realm, .int .u32 e.epoch, .slice A n c, .slice B m d]] w fun r w' => r = .returned (.bool (decide (n ≤ 40) && decide (m ≤ 1000))) ∧ Step (fun _ => False) w w' := by
  go_enter Try.func27, Try.ntmps27
  go_wp2
  go_ways
  · rename_i h
    go_ret
    refine ⟨ret_bool rfl ?_, (Step.refl _ _).alloc _⟩
    have h1 : n ≤ 40 := by omega
    rw [decide_eq_true h1, Bool.true_and]
    exact decide_eq_decide.2 (by omega)
  · rename_i h
    go_ret
    refine ⟨ret_bool rfl ?_, (Step.refl _ _).alloc _⟩
    have h1 : ¬ n ≤ 40 := by omega
    rw [decide_eq_false h1, Bool.false_and]
end Go.Proofs.Ytjnaiicgincndaa
