/- Commits as bytes; plain. -/
import Derived.Test.YtjnaiicgincndaaCB2
import Derived.Test.YtjnaiicgincndaaCCmtNext
import Derived.Test.YtjnaiicgincndaaCTy
namespace Go.Proofs.Ytjnaiicgincndaa
open Go.RowKit
set_option linter.unusedVariables false
set_option linter.unusedSimpArgs false

def mayC (m : Cmt) : Bool := decide (m.pa.length ≤ 2) && decide (m.text.length ≤ 4096) && (match m.pa with | [x, y] => !decide (x = y) | _ => true)
def cmtB (m : Cmt) : List UInt8 := nM m.pa.length ++ idsB m.pa ++ m.root.1 ++ m.key.1 ++ nM m.seq.toNat ++ nM m.author.toNat ++ nM m.text.length ++ m.text
def cmtZ : Cmt := ⟨[], idz, idz, 0, 0, []⟩
def cs1 (l : List UInt8) : List Id × RS := idsT 2 (some l)
def cs2 (l : List UInt8) : Id × RS := idT (cs1 l).2
def cs3 (l : List UInt8) : Id × RS := idT (cs2 l).2
def cs4 (l : List UInt8) : Nat × RS := numT 18446744073709551615 (cs3 l).2
def cs5 (l : List UInt8) : Nat × RS := numT 4294967295 (cs4 l).2
def cs6 (l : List UInt8) : List UInt8 × RS := textT 4096 (cs5 l).2
def cmtT (l : List UInt8) : Cmt × RS := (⟨(cs1 l).1, (cs2 l).1, (cs3 l).1, ((cs4 l).1 : Nat), ((cs5 l).1 : Nat), (cs6 l).1⟩, (cs6 l).2)
def cmtOf (l : List UInt8) : Option Cmt := if (cmtT l).2 = some [] ∧ mayC (cmtT l).1 = true then some (cmtT l).1 else none
theorem cmtOf_put {l : List UInt8} {m : Cmt} (h : cmtOf l = some m) : l = cmtB m ∧ mayC m = true := by
  unfold cmtOf at h
  split at h
  · rename_i hc
    obtain ⟨h1, h2⟩ := hc
    cases h
    refine ⟨?_, h2⟩
    have h6 := (textT_spec (show (textT 4096 (cs5 l).2).2 = some [] from h1)).1
    have h5 := numT_spec (show (numT 4294967295 (cs4 l).2).2 = _ from h6)
    have h4 := numT_spec (show (numT 18446744073709551615 (cs3 l).2).2 = _ from h5)
    have h3 := idT_spec (show (idT (cs2 l).2).2 = _ from h4)
    have h2' := idT_spec (show (idT (cs1 l).2).2 = _ from h3)
    have h1' := (idsT_spec (show (idsT 2 (some l)).2 = _ from h2')).1
    refine (Option.some.inj h1').trans ?_
    simp only [cmtB, cmtT, cs6, cs5, cs4, cs3, cs2, cs1, List.append_assoc, List.append_nil, Int.toNat_natCast]
  · cases h
theorem cmtOf_of {m : Cmt} (h : mayC m = true) (ho : CmtOk m) : cmtOf (cmtB m) = some m := by
  have hm := h
  simp only [mayC, Bool.and_eq_true, decide_eq_true_eq] at hm
  obtain ⟨⟨h1, h2⟩, h3⟩ := hm
  obtain ⟨o1, o2, o3, o4⟩ := ho
  obtain ⟨q, hq⟩ : ∃ q : Nat, m.seq = q := ⟨m.seq.toNat, by omega⟩
  obtain ⟨a, ha⟩ : ∃ a : Nat, m.author = a := ⟨m.author.toNat, by omega⟩
  have e1 : cmtB m = nM m.pa.length ++ (idsB m.pa ++ (m.root.1 ++ (m.key.1 ++ (nM q ++ (nM a ++ (nM m.text.length ++ (m.text ++ []))))))) := by
    simp [cmtB, hq, ha, List.append_assoc]
  have hT : cmtT (cmtB m) = (m, some []) := by
    have c1 : cs1 (cmtB m) = (m.pa, some (m.root.1 ++ (m.key.1 ++ (nM q ++ (nM a ++ (nM m.text.length ++ (m.text ++ []))))))) := by rw [cs1, e1, idsT_app h1]
    have c2 : cs2 (cmtB m) = (m.root, some (m.key.1 ++ (nM q ++ (nM a ++ (nM m.text.length ++ (m.text ++ [])))))) := by rw [cs2, c1, idT_app]
    have c3 : cs3 (cmtB m) = (m.key, some (nM q ++ (nM a ++ (nM m.text.length ++ (m.text ++ []))))) := by rw [cs3, c2, idT_app]
    have c4 : cs4 (cmtB m) = (q, some (nM a ++ (nM m.text.length ++ (m.text ++ [])))) := by rw [cs4, c3, numT_nM (by omega)]
    have c5 : cs5 (cmtB m) = (a, some (nM m.text.length ++ (m.text ++ []))) := by rw [cs5, c4, numT_nM (by omega)]
    have c6 : cs6 (cmtB m) = (m.text, some []) := by rw [cs6, c5, textT_app h2]
    rw [cmtT, c6, c5, c4, c3, c2, c1]
    simp only
    rw [← hq, ← ha]
  rw [cmtOf, hT]
  simp [h]
theorem cmtOf_ok (l : List UInt8) : CmtOk ((cmtOf l).getD cmtZ) ∧ ((cmtOf l).getD cmtZ).pa.length ≤ 2 ∧ ((cmtOf l).getD cmtZ).text.length ≤ 4096 := by
  have h4 := numT_le 18446744073709551615 (cs3 l).2
  have h5 := numT_le 4294967295 (cs4 l).2
  have h1 := idsT_le 2 (some l)
  have h6 := textT_le 4096 (cs5 l).2
  unfold cmtOf
  split
  · refine ⟨⟨?_, ?_, ?_, ?_⟩, h1, h6⟩
    · exact Int.natCast_nonneg _
    · show (((cs4 l).1 : Nat) : Int) < _
      unfold cs4
      omega
    · exact Int.natCast_nonneg _
    · show (((cs5 l).1 : Nat) : Int) < _
      unfold cs5
      omega
  · simp [cmtZ, CmtOk]
theorem idsB_len : ∀ l : List Id, (idsB l).length = l.length * 32
  | [] => rfl
  | x :: l => by
    have h1 := idsB_len l
    have h2 := x.2
    rw [idsB] at h1 ⊢
    rw [List.flatMap_cons, List.length_append, List.length_cons]
    omega
theorem cmtB_len {m : Cmt} (h : mayC m = true) (ho : CmtOk m) : (cmtB m).length ≤ 10000 := by
  simp only [mayC, Bool.and_eq_true, decide_eq_true_eq] at h
  obtain ⟨⟨h1, h2⟩, h3⟩ := h
  obtain ⟨o1, o2, o3, o4⟩ := ho
  have a1 := nM_ten (n := m.pa.length) (by omega)
  have a2 := nM_ten (n := m.seq.toNat) (by omega)
  have a3 := nM_ten (n := m.author.toNat) (by omega)
  have a4 := nM_ten (n := m.text.length) (by omega)
  have a5 : (idsB m.pa).length = m.pa.length * 32 := idsB_len _
  have a6 := m.root.2
  have a7 := m.key.2
  simp only [cmtB, List.length_append]
  omega
theorem id_beq (x y : Id) : (x.1 == y.1) = decide (x = y) := by
  rw [Bool.eq_iff_iff]
  simp only [beq_iff_eq, decide_eq_true_eq]
  exact ⟨fun h => Subtype.ext h, fun h => by rw [h]⟩
/-- A commit's cells. -/
abbrev cmtK (A : Option Addr) (n c : Nat) (m : Cmt) : List Value := c_api_Commit (.slice A n c) (u8s m.root.1) (u8s m.key.1) (.int .u64 m.seq) (.int .u32 m.author) (.string (str m.text))
theorem cmtc_eq (A : Option Addr) (n c : Nat) (m : Cmt) : cmtc A n c m = cmtK A n c m := by simp [cmtc, c_api_Commit, idc]
end Go.Proofs.Ytjnaiicgincndaa
