/- An envelope as an argument. -/
import Derived.Test.YtjnaiicgincndaaCB2
import Derived.Test.YtjnaiicgincndaaCAwake09
namespace Go.Proofs.Ytjnaiicgincndaa
open Go.RowKit Go.ChangeShapes Go.WideShapes Go.Deep

theorem opens_id {w : World} : Opens Try.prog w 26 (fun cs => ∃ x : Id, cs = idc x) :=
  (opens_bytes_array Try.underlying26 Try.underlying5 (by kernel_rfl) (by kernel_rfl)).mono fun cs ⟨l, h1, h2⟩ => ⟨⟨l, h1⟩, h2⟩
theorem opens_ids {w : World} : Opens Try.prog w 24 (fun cs => ∃ (A : Option Addr) (n c : Nat) (l : List Id), cs = [.slice A n c] ∧ Sl w A n c 32 (l.flatMap idc)) :=
  (opens_slice Try.underlying24 (sz := 32) (by kernel_rfl) opens_id).mono fun cs ⟨A, n, c, xss, h1, _, h3, h4⟩ => by
    obtain ⟨m, rfl, _⟩ := list_choose (f := fun x : Id => idc x) (q := fun _ => True) xss (fun x hx => let ⟨y, hy⟩ := (h3 x hx).1; ⟨y, hy, trivial⟩)
    exact ⟨A, n, c, m, h1, by rwa [List.flatMap_def]⟩

set_option maxRecDepth 100000 in
theorem opens_env {w : World} : Opens Try.prog w 48 (fun cs => ∃ (e : Env) (A : Option Addr) (n c : Nat) (B : Option Addr) (m d : Nat), cs = [.int .i64 e.kind, .int .u32 e.realm, .int .u32 e.epoch, .slice A n c, .slice B m d] ∧ EnvIs w e A n c B m d) :=
  (opens_struct (Rs := [fun cs => ∃ x, cs = [.int .i64 x] ∧ (Lit.int .i64 x).wf = true, fun cs => ∃ x, cs = [.int .u32 x] ∧ (Lit.int .u32 x).wf = true, fun cs => ∃ x, cs = [.int .u32 x] ∧ (Lit.int .u32 x).wf = true, fun cs => ∃ (A : Option Addr) (n c : Nat) (l : List Id), cs = [.slice A n c] ∧ Sl w A n c 32 (l.flatMap idc), fun cs => ∃ (A : Option Addr) (n c : Nat) (l : List UInt8), cs = [.slice A n c] ∧ Sl w A n c 1 (u8s l)]) Try.underlying48 (by kernel_rfl) (by kernel_rfl) ⟨opens_int Try.underlying3, opens_int Try.underlying29, opens_int Try.underlying29, opens_ids, opens_bytes Try.underlying22 Try.underlying5 (by kernel_rfl), trivial⟩).mono fun cs h => by
    obtain ⟨a1, b1, rfl, ⟨k, rfl, hk⟩, a2, b2, rfl, ⟨r, rfl, hr⟩, a3, b3, rfl, ⟨p, rfl, hp⟩, a4, b4, rfl, ⟨A, n, c, l, rfl, hl⟩, a5, b5, rfl, ⟨B, m, d, t, rfl, ht⟩, rfl⟩ := h
    have hr' := bounds_u32 hr
    have hp' := bounds_u32 hp
    refine ⟨⟨k, r.toNat, p.toNat, l, t⟩, A, n, c, B, m, d, ?_, ⟨hl, ht, hk, by show r.toNat < _; omega, by show p.toNat < _; omega⟩⟩
    simp only [List.cons_append, List.nil_append]
    rw [Int.toNat_of_nonneg (by omega), Int.toNat_of_nonneg (by omega)]

section
variable {H : Type} {enc : TypeId × Value → H} {w : World} {base : Nat} {spare : Nat → Bool} {held : Bool} {r : Reach} {b0 : Nat} {v : Value} {d : DataW H} {ps : List MemPlace}
set_option maxRecDepth 100000 in
theorem arg_env (hv : Value.okWide Try.prog w r b0 48 v) (h : DataW.Trod enc Try.prog w base spare held 48 v d ps) :
    ∃ (e : Env) (A : Option Addr) (n c : Nat) (B : Option Addr) (m d : Nat), v = .agg #[.int .i64 e.kind, .int .u32 e.realm, .int .u32 e.epoch, .slice A n c, .slice B m d] ∧ EnvIs w e A n c B m d := by
  obtain ⟨cs, rfl, e, A, n, c, B, m, d, rfl, he⟩ := arg_agg (.inl ⟨_, Try.underlying48⟩) opens_env hv h
  exact ⟨e, A, n, c, B, m, d, rfl, he⟩
end
end Go.Proofs.Ytjnaiicgincndaa
