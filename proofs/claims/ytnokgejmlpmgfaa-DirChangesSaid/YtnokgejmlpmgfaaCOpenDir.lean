/- Entries of a directory as arguments. -/
import Derived.Test.YtnokgejmlpmgfaaCB2
import Derived.Test.YtnokgejmlpmgfaaCDirM
namespace Go.Proofs.Ytnokgejmlpmgfaa
open Go.RowKit Go.ChangeShapes Go.WideShapes Go.Deep
set_option linter.unusedVariables false

theorem opens_dkey {w : World} : Opens Try.prog w 55 (fun cs => ∃ x : Id, cs = idc x) :=
  (opens_bytes_array Try.underlying55 Try.underlying5 (by kernel_rfl) (by kernel_rfl)).mono fun cs ⟨l, h1, h2⟩ => ⟨⟨l, h1⟩, h2⟩
theorem opens_did {w : World} : Opens Try.prog w 85 (fun cs => ∃ x : Id, cs = idc x) :=
  (opens_bytes_array Try.underlying85 Try.underlying5 (by kernel_rfl) (by kernel_rfl)).mono fun cs ⟨l, h1, h2⟩ => ⟨⟨l, h1⟩, h2⟩
/-- The numbers and the name of an entry are what their types let them be. -/
def EnOk (e : En) : Prop := -9223372036854775808 ≤ e.kind ∧ e.kind ≤ 9223372036854775807 ∧ 0 ≤ e.realm ∧ e.realm < 4294967296 ∧ 0 ≤ e.epoch ∧ e.epoch < 4294967296 ∧ e.name.length ≤ maxLen
set_option maxRecDepth 100000 in
theorem opens_entry {w : World} : Opens Try.prog w 87 (fun cs => ∃ e : En, cs = enK e ∧ EnOk e) :=
  (opens_struct (Rs := [fun cs => ∃ x : Id, cs = idc x, fun cs => ∃ l : List UInt8, cs = [.string (str l)] ∧ l.length ≤ maxLen, fun cs => ∃ x, cs = [.int .i64 x] ∧ (Lit.int .i64 x).wf = true, fun cs => ∃ x : Id, cs = idc x, fun cs => ∃ x : Id, cs = idc x, fun cs => ∃ x, cs = [.int .u32 x] ∧ (Lit.int .u32 x).wf = true, fun cs => ∃ x, cs = [.int .u32 x] ∧ (Lit.int .u32 x).wf = true])
    Try.underlying87 (by kernel_rfl) (by kernel_rfl) ⟨opens_did, opens_string Try.underlying9, opens_int Try.underlying3, opens_did, opens_dkey, opens_int Try.underlying32, opens_int Try.underlying32, trivial⟩).mono fun cs h => by
    obtain ⟨a1, b1, rfl, ⟨x, rfl⟩, a2, b2, rfl, ⟨t, rfl, ht⟩, a3, b3, rfl, ⟨k, rfl, hk⟩, a4, b4, rfl, ⟨y, rfl⟩, a5, b5, rfl, ⟨z, rfl⟩, a6, b6, rfl, ⟨r, rfl, hr⟩, a7, b7, rfl, ⟨u, rfl, hu⟩, rfl⟩ := h
    have hr' := bounds_u32 hr
    have hu' := bounds_u32 hu
    have hk' : -9223372036854775808 ≤ k ∧ k ≤ 9223372036854775807 := by
      simp [Lit.wf, IntKind.min, IntKind.max, IntKind.signed, IntKind.bits] at hk
      omega
    refine ⟨⟨x, t, k, y, z, r, u⟩, ?_, ⟨hk'.1, hk'.2, hr'.1, by show r < _; omega, hu'.1, by show u < _; omega, ht⟩⟩
    simp [c_api_Entry, idc]
set_option maxRecDepth 100000 in
theorem opens_entries {w : World} : Opens Try.prog w 22 (fun cs => ∃ (A : Option Addr) (n c : Nat) (l : List En), cs = [.slice A n c] ∧ Sl w A n c 100 (l.flatMap enK) ∧ ∀ e ∈ l, EnOk e) :=
  (opens_slice Try.underlying22 (sz := 100) (by kernel_rfl) opens_entry).mono fun cs ⟨A, n, c, xss, h1, _, h3, h4⟩ => by
    obtain ⟨m, rfl, hm⟩ := list_choose (f := fun e : En => enK e) (q := fun e => EnOk e) xss (fun x hx => (h3 x hx).1)
    exact ⟨A, n, c, m, h1, by rwa [List.flatMap_def], hm⟩
section
variable {H : Type} {enc : TypeId × Value → H} {w : World} {base : Nat} {spare : Nat → Bool} {held : Bool} {r : Reach} {b0 : Nat} {v : Value} {d : DataW H} {ps : List MemPlace}
set_option maxRecDepth 100000 in
theorem arg_entry (hv : Value.okWide Try.prog w r b0 87 v) (h : DataW.Trod enc Try.prog w base spare held 87 v d ps) :
    ∃ e : En, v = .agg (enK e).toArray ∧ EnOk e := by
  obtain ⟨cs, rfl, e, rfl, he⟩ := arg_agg (.inl ⟨_, Try.underlying87⟩) opens_entry hv h
  exact ⟨e, rfl, he⟩
set_option maxRecDepth 100000 in
theorem arg_entries (hv : Value.okWide Try.prog w r b0 22 v) (h : DataW.Trod enc Try.prog w base spare held 22 v d ps) :
    ∃ (A : Option Addr) (n c : Nat) (l : List En), v = .slice A n c ∧ Sl w A n c 100 (l.flatMap enK) ∧ ∀ e ∈ l, EnOk e := by
  obtain ⟨a, len, cap, rfl⟩ := okWide_slice Try.underlying22 hv
  obtain ⟨A, n, c, l, h1, h2⟩ := read_of opens_entries h
  simp [Value.cells] at h1
  obtain ⟨rfl, rfl, rfl⟩ := h1
  exact ⟨_, _, _, l, rfl, h2⟩
end
end Go.Proofs.Ytnokgejmlpmgfaa
