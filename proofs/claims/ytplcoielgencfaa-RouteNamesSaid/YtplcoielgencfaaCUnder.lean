/- What a path is under: route.Under and the reference's Under answer alike. -/
import Derived.Test.YtplcoielgencfaaProg
import Derived.Test.YtplcoielgencfaaCB1
namespace Go.Proofs.Ytplcoielgencfaa
open Go.RowKit

/-- Whether p is d, or in it. -/
def underM (p d : List UInt8) : Bool := d == [] || (p.take d.length == d && (p.length == d.length || p[d.length]? == some 47))
theorem underM_iff (p d : List UInt8) : underM p d = true ↔ d = [] ∨ (p.take d.length = d ∧ (p.length = d.length ∨ p[d.length]? = some 47)) := by simp [underM]

theorem under_self (p : List UInt8) : underM p p = true := (underM_iff p p).2 (.inr ⟨List.take_length, .inl rfl⟩)
theorem eq_under {b : Bool} {p d : List UInt8} (h : b = true ↔ d = [] ∨ (p.take d.length = d ∧ (p.length = d.length ∨ p[d.length]? = some 47))) : b = underM p d := by
  rw [Bool.eq_iff_iff, underM_iff, h]
theorem nil_len {d : List UInt8} : d = [] ↔ d.length = 0 := List.length_eq_zero_iff.symm
theorem get_47 {p : List UInt8} {k : Nat} (hk : k < p.length) : p[k]? = some 47 ↔ (((str p)[k]'(by rw [str_size]; exact hk)).toNat : Int) = 47 := by
  rw [List.getElem?_eq_getElem hk, str_get]
  constructor
  · intro h; injection h with h; rw [h]; rfl
  · intro h
    have e : p[k] = 47 := UInt8.toNat_inj.1 (by show _ = 47; omega)
    rw [e]
set_option maxRecDepth 100000 in
theorem under_code {w : World} {p d : List UInt8} (_ : p.length ≤ 1000000000) (_ : d.length ≤ 1000000000) :
    Calls Try.prog 10 #[.string (str p), .string (str d)] w fun e w' => e = .returned (.bool (underM p d)) ∧ w' = w := by
  have hpz := str_size p
  have hdz := str_size d
  have hpa := str_toList p
  have hda := str_toList d
  have hext := str_extract p 0 d.length
  go_enter Try.func10, Try.ntmps10
  go_wp2
  go_ways
  all_goals
    go_ret
    refine ⟨ret_bool rfl (eq_under ?_), rfl⟩
    try rw [str_toList] at *
  · rename_i h
    simp at h
    simp [h]
  · rename_i h1 h2 h3
    simp at h1
    have h4 : ¬ p.take d.length = d := by
      rcases h3 with h | h
      · omega
      · simpa using h
    simp [h1, h4]
  · rename_i h1 h2 h3 h4
    have h5 : p.take d.length = d := by simpa using h3.2
    simp [h5]
    right; left; omega
  · rename_i h1 h2 h3 h4 h5
    have h6 : p.take d.length = d := by simpa using h3.2
    simp at h1
    rw [get_47 h5]
    simp [h6, h1]
    omega
  · rename_i h1 h2
    simp at h1
    simp [h1]
    intro h
    have := congrArg List.length h
    simp at this
    omega
set_option maxRecDepth 100000 in
theorem under_ref {w : World} {p d : List UInt8} (_ : p.length ≤ 1000000000) (_ : d.length ≤ 1000000000) :
    Calls Try.prog 11 #[.string (str p), .string (str d)] w fun e w' => e = .returned (.bool (underM p d)) ∧ w' = w := by
  have hpz := str_size p
  have hdz := str_size d
  have hpa := str_toList p
  have hda := str_toList d
  have hext := str_extract p 0 d.length
  go_enter Try.func11, Try.ntmps11
  go_wp2
  go_ways
  all_goals
    go_ret
    refine ⟨ret_bool rfl (eq_under ?_), rfl⟩
    try rw [str_toList] at *
  · rename_i h
    simp [h]
  · rename_i h1 h
    subst h
    simp
  · rename_i h1 h2 h3 h4
    rw [get_47 h3]
    have : ¬ p.length = d.length := by omega
    simp [h1, h2, h4, this]
  · rename_i h1 h2 h3 h4
    simp [h1, h2, h4]
  · rename_i h1 h2 h3
    have h5 : ¬ p.take d.length = d := by
      intro h
      rw [List.take_of_length_le (by omega)] at h
      exact h2 h
    simp [h1, h2, h5]
end Go.Proofs.Ytplcoielgencfaa
