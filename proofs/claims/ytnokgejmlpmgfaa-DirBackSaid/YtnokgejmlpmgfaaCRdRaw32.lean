/- An id read, or none. -/
import Derived.Test.YtnokgejmlpmgfaaCRdCode
import Derived.Test.YtnokgejmlpmgfaaCB2
namespace Go.Proofs.Ytnokgejmlpmgfaa
open Go.RowKit
set_option linter.unusedVariables false

theorem rd_raw32 {S : Nat → Prop} {w0 w : World} {L F : List Ent} {g : Nat} {R : Nat → Prop} {s s' : RS} {x : Id} (h : St S w0 w L) [k : SlotR L g 163 true R s F] (hi : idT s = (x, s')) :
    Calls Try.prog 82 #[.pointer (some ⟨g, 0, none⟩), .int .i64 32] w fun e w' => ∃ A m c ys, e = .returned (.slice A m c) ∧ ((m = 32 ∧ ys = u8s x.1) ∨ (m = 0 ∧ x = idz)) ∧ St S w0 w' (eRd 163 true g R s' :: eOwn 5 1 A m c ys :: F) := by
  refine (rd_raw (m := 32) h (by omega)).mono ?_
  rintro e w' ⟨A, c, rfl, h2⟩
  cases hq : (idT s).2 with
  | none =>
    have hraw : rawT 32 s = ([], none) ∧ (idT s).1 = idz := by
      cases s with
      | none => exact ⟨rfl, rfl⟩
      | some l =>
        by_cases h2 : 32 ≤ l.length
        · rw [idT_some h2] at hq
          cases hq
        · exact ⟨by rw [rawT, if_neg h2], by rw [idT_short h2]⟩
    rw [hraw.1] at h2 ⊢
    rw [hi] at hq hraw
    simp only at hq
    subst hq
    exact ⟨A, _, c, _, rfl, .inr ⟨rfl, hraw.2⟩, h2⟩
  | some r =>
    have hsp := idT_spec hq
    rw [hi] at hq hsp
    simp only at hq hsp
    have hraw : rawT 32 s = (x.1, some r) := by
      have := rawT_app x.1 r
      rw [x.2] at this
      rw [hsp, this]
    rw [hraw] at h2 ⊢
    subst hq
    exact ⟨A, _, c, _, rfl, .inl ⟨x.2, rfl⟩, h2⟩
end Go.Proofs.Ytnokgejmlpmgfaa
