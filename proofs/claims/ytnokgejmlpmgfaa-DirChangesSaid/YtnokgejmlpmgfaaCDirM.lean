/- Entries of a directory: how they lie, which may stand together; plain. -/
import Derived.Test.YtnokgejmlpmgfaaCTy
import Derived.Test.YtnokgejmlpmgfaaCGood
import Derived.Test.YtnokgejmlpmgfaaCLinksM
namespace Go.Proofs.Ytnokgejmlpmgfaa
open Go.RowKit
set_option linter.unusedVariables false
set_option linter.unusedSimpArgs false

structure En where
  blind : Id
  name : List UInt8
  kind : Int
  id : Id
  key : Id
  realm : Int
  epoch : Int
abbrev enK (e : En) : List Value := c_api_Entry (u8s e.blind.1) (.string (str e.name)) (.int .i64 e.kind) (u8s e.id.1) (u8s e.key.1) (.int .u32 e.realm) (.int .u32 e.epoch)
instance enK_row (e : En) : Row (enK e) 100 := by
  have := Row.u32 e.blind
  have := Row.u32 e.id
  have := Row.u32 e.key
  exact c_api_Entry.row _ _ _ _ _ _ _
theorem enK_length (e : En) : (enK e).length = 100 := (enK_row e).len
/-- What one entry must be. -/
def oneM (e : En) : Bool := (e.kind == 1 || e.kind == 2 || e.kind == 4) && goodM e.name
/-- The entry at k against those ahead of it. -/
def okM (l : List En) (k : Nat) : Bool :=
  match l[k]? with
  | none => true
  | some e => oneM e && (match k with | 0 => true | j + 1 => match l[j]? with | none => true | some p => lessI p.blind e.blind) && !((l.take k).any fun x => x.name == e.name)
def dirM (l : List En) : Bool := decide (l.length ≤ 500) && (List.range l.length).all (okM l)
theorem dirM_long {l : List En} (h : 500 < l.length) : dirM l = false := by
  have : ¬ l.length ≤ 500 := by omega
  simp [dirM, this]
theorem dirM_no {l : List En} {k : Nat} (hk : k < l.length) (h : okM l k = false) : dirM l = false := by
  unfold dirM
  rw [Bool.and_eq_false_iff]
  refine .inr ?_
  rw [List.all_eq_false]
  exact ⟨k, List.mem_range.2 hk, by simp [h]⟩
theorem dirM_yes {l : List En} (hl : l.length ≤ 500) (h : ∀ k, k < l.length → okM l k = true) : dirM l = true := by
  unfold dirM
  rw [Bool.and_eq_true]
  exact ⟨by simpa using hl, List.all_eq_true.2 fun k hk => h k (List.mem_range.1 hk)⟩
theorem okM_zero {l : List En} {e : En} (hk : 0 < l.length) (he : l[0] = e) : okM l 0 = oneM e := by
  unfold okM
  rw [List.getElem?_eq_getElem hk, he]
  simp
theorem okM_succ {l : List En} {j : Nat} {p e : En} (hk : j + 1 < l.length) (hp : l[j] = p) (he : l[j + 1] = e) : okM l (j + 1) = (oneM e && lessI p.blind e.blind && !((l.take (j + 1)).any fun x => x.name == e.name)) := by
  unfold okM
  rw [List.getElem?_eq_getElem hk, he]
  simp only
  rw [List.getElem?_eq_getElem (by omega), hp]
/-- The names that were met. -/
def metM (l : List En) (k : Nat) (b : List UInt8) : Bool := (l.take k).any fun x => x.name == b
theorem metM_zero (l : List En) (b : List UInt8) : metM l 0 b = false := by simp [metM]
theorem metM_succ {l : List En} {k : Nat} {e : En} (hk : k < l.length) (he : l[k] = e) (b : List UInt8) : metM l (k + 1) b = (metM l k b || e.name == b) := by
  unfold metM
  rw [List.take_succ_eq_append_getElem hk, he, List.any_append]
  simp
end Go.Proofs.Ytnokgejmlpmgfaa
