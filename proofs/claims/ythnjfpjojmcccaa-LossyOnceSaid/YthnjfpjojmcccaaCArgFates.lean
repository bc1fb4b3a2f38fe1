/- Fates, and truths, as arguments. -/
import Derived.Test.YthnjfpjojmcccaaCB2
import Derived.Test.YthnjfpjojmcccaaCLink
namespace Go.Proofs.Ythnjfpjojmcccaa
open Go.RowKit Go.ChangeShapes Go.WideShapes Go.Deep
set_option linter.unusedVariables false

set_option maxRecDepth 100000 in
theorem opens_fate {w : World} : Opens Try.prog w 102 (fun cs => ∃ x : Fa, cs = fac x) :=
  (opens_struct (Rs := [fun cs => ∃ x, cs = [.int .i64 x] ∧ (Lit.int .i64 x).wf = true, fun cs => ∃ x, cs = [.int .i64 x] ∧ (Lit.int .i64 x).wf = true]) Try.underlying102 (by kernel_rfl) (by kernel_rfl) ⟨opens_int Try.underlying3, opens_int Try.underlying3, trivial⟩).mono fun cs h => by
    obtain ⟨a1, b1, rfl, ⟨k, rfl, hk⟩, a2, b2, rfl, ⟨r, rfl, hr⟩, rfl⟩ := h
    exact ⟨(k, r), rfl⟩
set_option maxRecDepth 100000 in
theorem opens_fates {w : World} : Opens Try.prog w 69 (fun cs => ∃ (A : Option Addr) (n c : Nat) (l : List Fa), cs = [.slice A n c] ∧ Sl w A n c 2 (l.flatMap fac)) :=
  (opens_slice Try.underlying69 (sz := 2) (by kernel_rfl) opens_fate).mono fun cs ⟨A, n, c, xss, h1, _, h3, h4⟩ => by
    obtain ⟨m, rfl, _⟩ := list_choose (f := fun x : Fa => fac x) (q := fun _ => True) xss (fun x hx => let ⟨y, hy⟩ := (h3 x hx).1; ⟨y, hy, trivial⟩)
    exact ⟨A, n, c, m, h1, by rwa [List.flatMap_def]⟩
theorem bools_flat (m : List Bool) : m.map Value.bool = m.flatMap (fun b => [Value.bool b]) := by
  induction m with
  | nil => rfl
  | cons a m ih => rw [List.map_cons, List.flatMap_cons, ih]; rfl
set_option maxRecDepth 100000 in
theorem opens_bools {w : World} : Opens Try.prog w 71 (fun cs => ∃ (A : Option Addr) (n c : Nat) (l : List Bool), cs = [.slice A n c] ∧ Sl w A n c 1 (l.map Value.bool)) :=
  (opens_slice Try.underlying71 (sz := 1) (by kernel_rfl) (opens_bool Try.underlying4)).mono fun cs ⟨A, n, c, xss, h1, _, h3, h4⟩ => by
    obtain ⟨m, rfl, _⟩ := list_choose (f := fun b : Bool => [Value.bool b]) (q := fun _ => True) xss (fun x hx => let ⟨y, hy⟩ := (h3 x hx).1; ⟨y, hy, trivial⟩)
    refine ⟨A, n, c, m, h1, ?_⟩
    rw [bools_flat m]
    rwa [List.flatMap_def]
section
variable {H : Type} {enc : TypeId × Value → H} {w : World} {base : Nat} {spare : Nat → Bool} {held : Bool} {r : Reach} {b0 : Nat} {v : Value} {d : DataW H} {ps : List MemPlace}
set_option maxRecDepth 100000 in
theorem arg_fates (hv : Value.okWide Try.prog w r b0 69 v) (h : DataW.Trod enc Try.prog w base spare held 69 v d ps) :
    ∃ (A : Option Addr) (n c : Nat) (l : List Fa), v = .slice A n c ∧ Sl w A n c 2 (l.flatMap fac) := by
  obtain ⟨a, len, cap, rfl⟩ := okWide_slice Try.underlying69 hv
  obtain ⟨A, n, c, l, h1, h2⟩ := read_of opens_fates h
  simp [Value.cells] at h1
  obtain ⟨rfl, rfl, rfl⟩ := h1
  exact ⟨_, _, _, l, rfl, h2⟩
set_option maxRecDepth 100000 in
theorem arg_bools (hv : Value.okWide Try.prog w r b0 71 v) (h : DataW.Trod enc Try.prog w base spare held 71 v d ps) :
    ∃ (A : Option Addr) (n c : Nat) (l : List Bool), v = .slice A n c ∧ Sl w A n c 1 (l.map Value.bool) := by
  obtain ⟨a, len, cap, rfl⟩ := okWide_slice Try.underlying71 hv
  obtain ⟨A, n, c, l, h1, h2⟩ := read_of opens_bools h
  simp [Value.cells] at h1
  obtain ⟨rfl, rfl, rfl⟩ := h1
  exact ⟨_, _, _, l, rfl, h2⟩
end
end Go.Proofs.Ythnjfpjojmcccaa
