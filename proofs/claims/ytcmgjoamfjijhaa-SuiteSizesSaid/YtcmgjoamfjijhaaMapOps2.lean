/- Look-ups whose answer is known. Program independent. -/
import Derived.Test.YtcmgjoamfjijhaaMapOps
namespace Go.Proofs.Ytcmgjoamfjijhaa
open Go.RowKit Go.Maps
set_option linter.unusedVariables false
set_option linter.unusedSimpArgs false
set_option linter.unusedSectionVars false

section
variable {α β : Type} [DecidableEq α] {P : Program} {ρ : Operand → Value} {o : Oper} {S : Nat → Prop} {w0 w : World} {L F : List Ent} {m : List (α × β)}
theorem ex_look_some (kv : α → Value) (vv : β → Value) (h : St S w0 w L) (t : TypeId) (x y : Operand) (ho : o.op = .lookup t x y true) (b : Nat) (hx : ρ x = .map (some b)) (a : α) (hy : ρ y = kv a) {v : β} (hg : mget m a = some v) {k e : TypeId} {z : Value} [T : MapTy P t k e z] [sm : SlotM L b kv vv m F] [K : MapKey P k kv] :
    Reads P ρ o w (.tuple #[vv v, .bool true]) := by
  have := ex_mlook2 (P := P) (kv := kv) (vv := vv) (m := m) h t x y ho b hx a hy
  rwa [hg] at this
theorem ex_look_eq (kv : α → Value) (vv : β → Value) (h : St S w0 w L) (t : TypeId) (x y : Operand) (ho : o.op = .lookup t x y true) (b : Nat) (hx : ρ x = .map (some b)) (a : α) (hy : ρ y = kv a) {v : β} (hg : mget m a = some v) {u : Value} (hv : vv v = u) {k e : TypeId} {z : Value} [T : MapTy P t k e z] [sm : SlotM L b kv vv m F] [K : MapKey P k kv] :
    Reads P ρ o w (.tuple #[u, .bool true]) := by
  rw [← hv]
  exact ex_look_some kv vv h t x y ho b hx a hy hg
theorem ex_look_none (kv : α → Value) (vv : β → Value) (h : St S w0 w L) (t : TypeId) (x y : Operand) (ho : o.op = .lookup t x y true) (b : Nat) (hx : ρ x = .map (some b)) (a : α) (hy : ρ y = kv a) (hg : mget m a = none) {k e : TypeId} {z : Value} [T : MapTy P t k e z] [sm : SlotM L b kv vv m F] [K : MapKey P k kv] :
    Reads P ρ o w (.tuple #[z, .bool false]) := by
  have := ex_mlook2 (P := P) (kv := kv) (vv := vv) (m := m) h t x y ho b hx a hy
  rwa [hg] at this
theorem ex_look1_some (kv : α → Value) (vv : β → Value) (h : St S w0 w L) (t : TypeId) (x y : Operand) (ho : o.op = .lookup t x y false) (b : Nat) (hx : ρ x = .map (some b)) (a : α) (hy : ρ y = kv a) {v : β} (hg : mget m a = some v) {k e : TypeId} {z : Value} [T : MapTy P t k e z] [sm : SlotM L b kv vv m F] [K : MapKey P k kv] :
    Reads P ρ o w (vv v) := by
  have := ex_mlook (P := P) (kv := kv) (vv := vv) (m := m) h t x y ho b hx a hy
  rwa [hg] at this
theorem ex_look1_none (kv : α → Value) (vv : β → Value) (h : St S w0 w L) (t : TypeId) (x y : Operand) (ho : o.op = .lookup t x y false) (b : Nat) (hx : ρ x = .map (some b)) (a : α) (hy : ρ y = kv a) (hg : mget m a = none) {k e : TypeId} {z : Value} [T : MapTy P t k e z] [sm : SlotM L b kv vv m F] [K : MapKey P k kv] :
    Reads P ρ o w z := by
  have := ex_mlook (P := P) (kv := kv) (vv := vv) (m := m) h t x y ho b hx a hy
  rwa [hg] at this
end
end Go.Proofs.Ytcmgjoamfjijhaa
