/- A region that draws its order: where more than one operation may come up next. Program independent. -/
import Derived.Test.YtcmgjoamfjijhaaReg
namespace Go.Proofs.Ytcmgjoamfjijhaa
open Go.RowKit
set_option linter.unusedVariables false

section
variable {P : Program} {md : Region.Mode} {ops : Array Oper} {Q : Exit → Act → World → Prop} {T : Nat} {G : World → Prop}
theorem wpAnyJ_many {rs : List Nat} {fuel : Nat} {l : Array Bool} {a : Act} {w : World} (hr : Region.ready md ops l = rs) (hne : rs ≠ []) (hc : Clo md ops l)
    (h : ∀ i ∈ rs, ∃ oi, ops[i]? = some oi ∧ Region.wanted oi (yielded ops a.tmps) = true ∧ ∀ K : Act → World → Prop, Shut (∀ a' w', SJ T G (l.setIfInBounds i true) w' → (Clo md ops (l.setIfInBounds i true) → SJ T G (l.setIfInBounds i true) w' → wpAnyJ P md ops Q T G fuel (l.setIfInBounds i true) a' w') → K a' w') → oi.wp P a w K Q) : wpAnyJ P md ops Q T G (fuel + 1) l a w := by
  refine ⟨fun h0 => absurd (hr.symm.trans h0) hne, fun j hj => ?_⟩
  have hc2 := hc.set (i := j) hj
  rw [hr] at hj
  obtain ⟨oi, hi, hw, h⟩ := h j hj
  exact wpOpQ_step hi hw (h _ fun a' w' hS hW => ⟨hS, hW hc2 hS⟩)
/-- Two that may come up next. -/
theorem wpAnyK_two {i i2 : Nat} {oi oi2 : Oper} {fuel : Nat} {l : Array Bool} {a : Act} {w : World} (hi : ops[i]? = some oi) (hi2 : ops[i2]? = some oi2) (hr : Region.ready md ops l = [i, i2]) (hw : Region.wanted oi (yielded ops a.tmps) = true) (hw2 : Region.wanted oi2 (yielded ops a.tmps) = true)
    (h : ∀ K : Act → World → Prop, Shut (∀ a' w', SJ T G (l.setIfInBounds i true) w' → wpAnyK P md ops Q T G fuel (l.setIfInBounds i true) a' w' → K a' w') → oi.wp P a w K Q)
    (h2 : ∀ K : Act → World → Prop, Shut (∀ a' w', SJ T G (l.setIfInBounds i2 true) w' → wpAnyK P md ops Q T G fuel (l.setIfInBounds i2 true) a' w' → K a' w') → oi2.wp P a w K Q) : wpAnyK P md ops Q T G (fuel + 1) l a w := fun hc hS => wpAnyJ_many hr (by simp) hc fun j hj => by
  rcases List.mem_cons.1 hj with rfl | hj
  · exact ⟨oi, hi, hw, h⟩
  · obtain rfl : j = i2 := by simpa using hj
    exact ⟨oi2, hi2, hw2, h2⟩
/-- Three that may come up next. -/
theorem wpAnyK_three {i i2 i3 : Nat} {oi oi2 oi3 : Oper} {fuel : Nat} {l : Array Bool} {a : Act} {w : World} (hi : ops[i]? = some oi) (hi2 : ops[i2]? = some oi2) (hi3 : ops[i3]? = some oi3) (hr : Region.ready md ops l = [i, i2, i3]) (hw : Region.wanted oi (yielded ops a.tmps) = true) (hw2 : Region.wanted oi2 (yielded ops a.tmps) = true) (hw3 : Region.wanted oi3 (yielded ops a.tmps) = true)
    (h : ∀ K : Act → World → Prop, Shut (∀ a' w', SJ T G (l.setIfInBounds i true) w' → wpAnyK P md ops Q T G fuel (l.setIfInBounds i true) a' w' → K a' w') → oi.wp P a w K Q)
    (h2 : ∀ K : Act → World → Prop, Shut (∀ a' w', SJ T G (l.setIfInBounds i2 true) w' → wpAnyK P md ops Q T G fuel (l.setIfInBounds i2 true) a' w' → K a' w') → oi2.wp P a w K Q)
    (h3 : ∀ K : Act → World → Prop, Shut (∀ a' w', SJ T G (l.setIfInBounds i3 true) w' → wpAnyK P md ops Q T G fuel (l.setIfInBounds i3 true) a' w' → K a' w') → oi3.wp P a w K Q) : wpAnyK P md ops Q T G (fuel + 1) l a w := fun hc hS => wpAnyJ_many hr (by simp) hc fun j hj => by
  rcases List.mem_cons.1 hj with rfl | hj
  · exact ⟨oi, hi, hw, h⟩
  · rcases List.mem_cons.1 hj with rfl | hj
    · exact ⟨oi2, hi2, hw2, h2⟩
    · obtain rfl : j = i3 := by simpa using hj
      exact ⟨oi3, hi3, hw3, h3⟩
end
end Go.Proofs.Ytcmgjoamfjijhaa
