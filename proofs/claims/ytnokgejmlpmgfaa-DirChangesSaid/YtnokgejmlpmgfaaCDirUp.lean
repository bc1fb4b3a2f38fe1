/- The bytes of the first entries; plain. -/
import Derived.Test.YtnokgejmlpmgfaaCDirPlain
namespace Go.Proofs.Ytnokgejmlpmgfaa
open Go.RowKit
set_option linter.unusedVariables false

/-- The bytes of the first k entries. -/
def upB (l : List En) (k : Nat) : List UInt8 := nM l.length ++ (l.take k).flatMap encE
theorem upB_zero (l : List En) : upB l 0 = nM l.length := by simp [upB]
theorem upB_all (l : List En) : upB l l.length = dirB l := by simp [upB, dirB]
theorem upB_next {l : List En} {k : Nat} {e : En} (hk : k < l.length) (he : l[k] = e) : upB l (k + 1) = upB l k ++ encE e := by
  rw [upB, List.take_succ_eq_append_getElem hk, he, List.flatMap_append, ← List.append_assoc]
  simp [upB]
theorem upB_len {l : List En} (h : ∀ e ∈ l, EnB e) (hl : l.length ≤ 500) (k : Nat) : (upB l k).length ≤ 110000 := by
  have h1 := encsE_len (l := l.take k) fun e he => h e (List.mem_of_mem_take he)
  have h2 := nM_ten (n := l.length) (by omega)
  have h3 : (l.take k).length ≤ l.length := List.length_take_le' k l
  rw [upB, List.length_append]
  omega
end Go.Proofs.Ytnokgejmlpmgfaa
