/- A key, and texts, as arguments. -/
import Derived.Test.YtcmgjoamfjijhaaCB2
import Derived.Test.YtcmgjoamfjijhaaCTy
namespace Go.Proofs.Ytcmgjoamfjijhaa
open Go.RowKit Go.ChangeShapes Go.WideShapes
set_option linter.unusedVariables false

section
variable {w : World} {H : Type} {enc : TypeId × Value → H} {base : Nat} {spare : Nat → Bool} {held : Bool} {r : Reach} {b0 : Nat} {v : Value} {d : DataW H} {ps : List MemPlace}
set_option maxRecDepth 100000 in
theorem arg_keyId (hv : Value.okWide Try.prog w r b0 29 v) (h : DataW.Trod enc Try.prog w base spare held 29 v d ps) : ∃ k : Id, v = .agg (u8s k.1).toArray := by
  obtain ⟨cs, rfl, l, hl, rfl⟩ := arg_agg (.inr ⟨_, _, Try.underlying29⟩) (opens_bytes_array Try.underlying29 Try.underlying5 (by kernel_rfl) (by kernel_rfl)) hv h
  exact ⟨⟨l, hl⟩, rfl⟩
set_option maxRecDepth 100000 in
theorem arg_u8 (hv : Value.okWide Try.prog w r b0 5 v) (h : DataW.Trod enc Try.prog w base spare held 5 v d ps) : ∃ x : UInt8, v = .int .u8 (x.toNat : Int) := by
  obtain ⟨x, rfl, hx⟩ := arg_int Try.underlying5 hv h
  have h2 : 0 ≤ x ∧ x < 256 := by
    simp [Lit.wf, IntKind.min, IntKind.max, IntKind.signed, IntKind.bits] at hx
    omega
  refine ⟨UInt8.ofNat x.toNat, ?_⟩
  rw [UInt8.toNat_ofNat']
  congr 1
  omega
end
end Go.Proofs.Ytcmgjoamfjijhaa
