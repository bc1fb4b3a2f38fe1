/- dir.Good. -/
import Derived.Test.YtnokgejmlpmgfaaCDirM
import Derived.Test.YtnokgejmlpmgfaaCB2
import Derived.Test.YtnokgejmlpmgfaaCOrder
namespace Go.Proofs.Ytnokgejmlpmgfaa
open Go.RowKit
set_option linter.unusedVariables false
set_option linter.unusedSimpArgs false

def natv (n : Nat) : Value := .int .i64 (n : Int)
instance mk_name : MapKey Try.prog 9 nmv := mapkey_str Try.underlying9
theorem mapTy_mkD {P : Program} {t k e : TypeId} {z : Value} (h1 : P.underlying t = some (.map k e)) (h2 : (P.info? e).map (·.zero) = some (some z)) : MapTy P t k e z where
  und := h1
  zero w := by
    cases hq : P.info? e with
    | none => simp [hq] at h2
    | some i =>
      have : i.zero = some z := by simpa [hq] using h2
      simp [zeroValue, typeInfo, hq, this]
instance : MapTy Try.prog 119 9 3 (.int .i64 0) := mapTy_mkD Try.underlying119 (by kernel_rfl)
set_option maxRecDepth 100000 in
theorem one_code {S : Nat → Prop} {w0 w : World} {L : List Ent} {e : En} (h : St S w0 w L) :
    Calls Try.prog 60 #[.agg (enK e).toArray] w fun r w' => r = .returned (.bool (oneM e)) ∧ St S w0 w' L := by
  obtain ⟨blind, name, kind, id, key, realm, epoch⟩ := e
  have r1 : Row (u8s blind.1) 32 := Row.u32 blind
  have r2 : Row (u8s id.1) 32 := Row.u32 id
  have r3 : Row (u8s key.1) 32 := Row.u32 key
  by_cases hk : kind = 1 ∨ kind = 2 ∨ kind = 4
  · have hm : oneM ⟨blind, name, kind, id, key, realm, epoch⟩ = goodM name := by
      unfold oneM
      rcases hk with rfl | rfl | rfl <;> rfl
    rw [hm]
    clear hm
    rcases hk with rfl | rfl | rfl
    all_goals
      go_enter Try.func60, Try.ntmps60
      go_wp2_with (first
        | (refine wl_runs rfl (ex_box h 87 _ rfl (enK ⟨blind, name, _, id, key, realm, epoch⟩) rfl) ?_; clear h; rintro _ w ⟨g, rfl, h⟩)
        | (go_at_call 97; refine good_code.mono ?_; rintro r w ⟨rfl, hs⟩; replace h := h.quiet hs; clear hs)
        | (refine wl_reads rfl (ex_loadv h _ _ rfl _ _ rfl) ?_))
      go_ret
      exact ⟨rfl, h.to⟩
  · have hm : oneM ⟨blind, name, kind, id, key, realm, epoch⟩ = false := by
      unfold oneM
      have h1 : ¬ kind = 1 := fun e => hk (.inl e)
      have h2 : ¬ kind = 2 := fun e => hk (.inr (.inl e))
      have h4 : ¬ kind = 4 := fun e => hk (.inr (.inr e))
      simp [h1, h2, h4]
    rw [hm]
    have h1 : (kind == 1) = false := by simpa using fun e => hk (.inl e)
    have h2 : (kind == 2) = false := by simpa using fun e => hk (.inr (.inl e))
    have h4 : (kind == 4) = false := by simpa using fun e => hk (.inr (.inr e))
    clear hm hk
    go_enter Try.func60, Try.ntmps60
    go_wp2_with (first
      | (refine wl_runs rfl (ex_box h 87 _ rfl (enK ⟨blind, name, kind, id, key, realm, epoch⟩) rfl) ?_; clear h; rintro _ w ⟨g, rfl, h⟩)
      | (refine wl_reads rfl (ex_loadv h _ _ rfl _ _ rfl) ?_))
    go_ret
    exact ⟨rfl, h.to⟩
end Go.Proofs.Ytnokgejmlpmgfaa
