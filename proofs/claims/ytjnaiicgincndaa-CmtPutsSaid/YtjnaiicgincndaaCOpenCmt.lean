/- A commit, commits as arguments. -/
import Derived.Test.YtjnaiicgincndaaCB2
import Derived.Test.YtjnaiicgincndaaCCmtNext
namespace Go.Proofs.Ytjnaiicgincndaa
open Go.RowKit Go.ChangeShapes Go.WideShapes Go.Deep

theorem opens_key {w : World} : Opens Try.prog w 27 (fun cs => ∃ x : Id, cs = idc x) :=
  (opens_bytes_array Try.underlying27 Try.underlying5 (by kernel_rfl) (by kernel_rfl)).mono fun cs ⟨l, h1, h2⟩ => ⟨⟨l, h1⟩, h2⟩
theorem opens_cid {w : World} : Opens Try.prog w 26 (fun cs => ∃ x : Id, cs = idc x) :=
  (opens_bytes_array Try.underlying26 Try.underlying5 (by kernel_rfl) (by kernel_rfl)).mono fun cs ⟨l, h1, h2⟩ => ⟨⟨l, h1⟩, h2⟩
theorem opens_cids {w : World} : Opens Try.prog w 24 (fun cs => ∃ (A : Option Addr) (n c : Nat) (l : List Id), cs = [.slice A n c] ∧ Sl w A n c 32 (l.flatMap idc)) :=
  (opens_slice Try.underlying24 (sz := 32) (by kernel_rfl) opens_cid).mono fun cs ⟨A, n, c, xss, h1, _, h3, h4⟩ => by
    obtain ⟨m, rfl, _⟩ := list_choose (f := fun x : Id => idc x) (q := fun _ => True) xss (fun x hx => let ⟨y, hy⟩ := (h3 x hx).1; ⟨y, hy, trivial⟩)
    exact ⟨A, n, c, m, h1, by rwa [List.flatMap_def]⟩

/-- A commit as it lies in w. -/
def CmtIs (w : World) (p : CmtAt) : Prop := Sl w p.A p.n p.c 32 (p.m.pa.flatMap idc) ∧ CmtOk p.m ∧ p.m.text.length ≤ maxLen

set_option maxRecDepth 100000 in
theorem opens_cmt {w : World} : Opens Try.prog w 31 (fun cs => ∃ p : CmtAt, cs = atc p ∧ CmtIs w p) :=
  (opens_struct (Rs := [fun cs => ∃ (A : Option Addr) (n c : Nat) (l : List Id), cs = [.slice A n c] ∧ Sl w A n c 32 (l.flatMap idc), fun cs => ∃ x : Id, cs = idc x, fun cs => ∃ x : Id, cs = idc x, fun cs => ∃ x, cs = [.int .u64 x] ∧ (Lit.int .u64 x).wf = true, fun cs => ∃ x, cs = [.int .u32 x] ∧ (Lit.int .u32 x).wf = true, fun cs => ∃ l : List UInt8, cs = [.string (str l)] ∧ l.length ≤ maxLen])
    Try.underlying31 (by kernel_rfl) (by kernel_rfl) ⟨opens_cids, opens_cid, opens_key, opens_int Try.underlying28, opens_int Try.underlying29, opens_string Try.underlying9, trivial⟩).mono fun cs h => by
    obtain ⟨a1, b1, rfl, ⟨A, n, c, l, rfl, hl⟩, a2, b2, rfl, ⟨x, rfl⟩, a3, b3, rfl, ⟨y, rfl⟩, a4, b4, rfl, ⟨s, rfl, hs⟩, a5, b5, rfl, ⟨u, rfl, hu⟩, a6, b6, rfl, ⟨t, rfl, ht⟩, rfl⟩ := h
    have hs' := bounds_u64 hs
    have hu' := bounds_u32 hu
    refine ⟨⟨A, n, c, ⟨l, x, y, s, u, t⟩⟩, ?_, hl, ⟨hs'.1, by show s < _; omega, hu'.1, by show u < _; omega⟩, ht⟩
    simp [atc, cmtc]
set_option maxRecDepth 100000 in
theorem opens_cmts {w : World} : Opens Try.prog w 126 (fun cs => ∃ (A : Option Addr) (n c : Nat) (l : List CmtAt), cs = [.slice A n c] ∧ Sl w A n c 68 (l.flatMap atc) ∧ ∀ p ∈ l, CmtIs w p) :=
  (opens_slice Try.underlying126 (sz := 68) (by kernel_rfl) opens_cmt).mono fun cs ⟨A, n, c, xss, h1, _, h3, h4⟩ => by
    obtain ⟨m, rfl, hm⟩ := list_choose (f := atc) (q := fun p => CmtIs w p) xss (fun x hx => (h3 x hx).1)
    exact ⟨A, n, c, m, h1, by rwa [List.flatMap_def], hm⟩

section
variable {H : Type} {enc : TypeId × Value → H} {w : World} {base : Nat} {spare : Nat → Bool} {held : Bool} {r : Reach} {b0 : Nat} {v : Value} {d : DataW H} {ps : List MemPlace}
set_option maxRecDepth 100000 in
theorem arg_cmt (hv : Value.okWide Try.prog w r b0 31 v) (h : DataW.Trod enc Try.prog w base spare held 31 v d ps) :
    ∃ (A : Option Addr) (n c : Nat) (m : Cmt), v = .agg (cmtc A n c m).toArray ∧ CmtIs w ⟨A, n, c, m⟩ := by
  obtain ⟨cs, rfl, p, rfl, hp⟩ := arg_agg (.inl ⟨_, Try.underlying31⟩) opens_cmt hv h
  exact ⟨p.A, p.n, p.c, p.m, rfl, hp⟩
set_option maxRecDepth 100000 in
theorem arg_cmts (hv : Value.okWide Try.prog w r b0 126 v) (h : DataW.Trod enc Try.prog w base spare held 126 v d ps) :
    ∃ (A : Option Addr) (n c : Nat) (l : List CmtAt), v = .slice A n c ∧ Sl w A n c 68 (l.flatMap atc) ∧ ∀ p ∈ l, CmtIs w p := by
  obtain ⟨a, len, cap, rfl⟩ := okWide_slice Try.underlying126 hv
  obtain ⟨A, n, c, l, h1, h2⟩ := read_of opens_cmts h
  simp [Value.cells] at h1
  obtain ⟨rfl, rfl, rfl⟩ := h1
  exact ⟨_, _, _, l, rfl, h2⟩
end
end Go.Proofs.Ytjnaiicgincndaa
