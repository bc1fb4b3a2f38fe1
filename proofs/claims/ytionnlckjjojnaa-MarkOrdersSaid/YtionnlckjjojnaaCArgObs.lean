/- Objects as arguments. -/
import Derived.Test.YtionnlckjjojnaaCB2
import Derived.Test.YtionnlckjjojnaaCMarkIx
namespace Go.Proofs.Ytionnlckjjojnaa
open Go.RowKit Go.ChangeShapes Go.WideShapes Go.Deep
set_option linter.unusedVariables false

theorem opens_oid {w : World} : Opens Try.prog w 33 (fun cs => ∃ x : Id, cs = idc x) :=
  (opens_bytes_array Try.underlying33 Try.underlying5 (by kernel_rfl) (by kernel_rfl)).mono fun cs ⟨l, h1, h2⟩ => ⟨⟨l, h1⟩, h2⟩
theorem opens_oids {w : World} : Opens Try.prog w 23 (fun cs => ∃ (A : Option Addr) (n c : Nat) (l : List Id), cs = [.slice A n c] ∧ Sl w A n c 32 (l.flatMap idc)) :=
  (opens_slice Try.underlying23 (sz := 32) (by kernel_rfl) opens_oid).mono fun cs ⟨A, n, c, xss, h1, _, h3, h4⟩ => by
    obtain ⟨m, rfl, _⟩ := list_choose (f := fun x : Id => idc x) (q := fun _ => True) xss (fun x hx => let ⟨y, hy⟩ := (h3 x hx).1; ⟨y, hy, trivial⟩)
    exact ⟨A, n, c, m, h1, by rwa [List.flatMap_def]⟩
set_option maxRecDepth 100000 in
theorem opens_object {w : World} : Opens Try.prog w 44 (fun cs => ∃ p : ObAt, cs = obc p ∧ Sl w p.A p.n p.c 32 (p.links.flatMap idc)) :=
  (opens_struct (Rs := [fun cs => ∃ x : Id, cs = idc x, fun cs => ∃ (A : Option Addr) (n c : Nat) (l : List Id), cs = [.slice A n c] ∧ Sl w A n c 32 (l.flatMap idc), fun cs => ∃ x, cs = [.int .i64 x] ∧ (Lit.int .i64 x).wf = true])
    Try.underlying44 (by kernel_rfl) (by kernel_rfl) ⟨opens_oid, opens_oids, opens_int Try.underlying3, trivial⟩).mono fun cs h => by
    obtain ⟨a1, b1, rfl, ⟨x, rfl⟩, a2, b2, rfl, ⟨A, n, c, l, rfl, hl⟩, a3, b3, rfl, ⟨k, rfl, hk⟩, rfl⟩ := h
    refine ⟨⟨A, n, c, x, l, k⟩, ?_, hl⟩
    simp [c_api_Object, idc]
set_option maxRecDepth 100000 in
theorem opens_objects {w : World} : Opens Try.prog w 22 (fun cs => ∃ (A : Option Addr) (n c : Nat) (ps : List ObAt), cs = [.slice A n c] ∧ Sl w A n c 34 (ps.flatMap obc) ∧ LinksIs w ps) :=
  (opens_slice Try.underlying22 (sz := 34) (by kernel_rfl) opens_object).mono fun cs ⟨A, n, c, xss, h1, _, h3, h4⟩ => by
    obtain ⟨m, rfl, hm⟩ := list_choose (f := fun p : ObAt => obc p) (q := fun p => Sl w p.A p.n p.c 32 (p.links.flatMap idc)) xss (fun x hx => (h3 x hx).1)
    exact ⟨A, n, c, m, h1, by rwa [List.flatMap_def], hm⟩
section
variable {H : Type} {enc : TypeId × Value → H} {w : World} {base : Nat} {spare : Nat → Bool} {held : Bool} {r : Reach} {b0 : Nat} {v : Value} {d : DataW H} {ps : List MemPlace}
set_option maxRecDepth 100000 in
theorem arg_objects (hv : Value.okWide Try.prog w r b0 22 v) (h : DataW.Trod enc Try.prog w base spare held 22 v d ps) :
    ∃ (A : Option Addr) (n c : Nat) (l : List ObAt), v = .slice A n c ∧ Sl w A n c 34 (l.flatMap obc) ∧ LinksIs w l := by
  obtain ⟨a, len, cap, rfl⟩ := okWide_slice Try.underlying22 hv
  obtain ⟨A, n, c, l, h1, h2⟩ := read_of opens_objects h
  simp [Value.cells] at h1
  obtain ⟨rfl, rfl, rfl⟩ := h1
  exact ⟨_, _, _, l, rfl, h2⟩
set_option maxRecDepth 100000 in
theorem arg_oids (hv : Value.okWide Try.prog w r b0 23 v) (h : DataW.Trod enc Try.prog w base spare held 23 v d ps) :
    ∃ (A : Option Addr) (n c : Nat) (l : List Id), v = .slice A n c ∧ Sl w A n c 32 (l.flatMap idc) := by
  obtain ⟨a, len, cap, rfl⟩ := okWide_slice Try.underlying23 hv
  obtain ⟨A, n, c, l, h1, h2⟩ := read_of opens_oids h
  simp [Value.cells] at h1
  obtain ⟨rfl, rfl, rfl⟩ := h1
  exact ⟨_, _, _, l, rfl, h2⟩
end
end Go.Proofs.Ytionnlckjjojnaa
