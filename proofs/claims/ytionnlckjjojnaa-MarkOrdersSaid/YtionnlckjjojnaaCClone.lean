/- slices.Clone. -/
import Derived.Test.YtionnlckjjojnaaCB2
import Derived.Test.YtionnlckjjojnaaCTy
import Derived.Lib.SliceRun
namespace Go.Proofs.Ytionnlckjjojnaa
open Go.RowKit
set_option linter.unusedVariables false
set_option linter.unusedSimpArgs false

section
variable {P : Program} {S : Nat → Prop} {w0 w : World} {L F : List Ent} {ρ : Operand → Value} {o : Oper}
/-- []T{}. -/
theorem ex_slice0 (h : St S w0 w L) (t : TypeId) (ho : o.op = .buildSlice t 0 #[]) {e : TypeId} {sz bytes : Nat} [ke : Elm P t e sz bytes] :
    Runs P ρ o w fun v w' => ∃ g, v = .slice (some ⟨g, 0, none⟩) 0 0 ∧ St S w0 w' (eOwn e sz (some ⟨g, 0, none⟩) 0 0 [] :: L) := by
  obtain ⟨i, z, hi, hz, hsize, hby, hzs⟩ := ke.info
  have hb : Blk (w.alloc (.cells #[] e)) w.heap.size e #[] := Blk.new w e _
  refine ⟨by simp [ho], by simp [Oper.about, ho], .slice (some ⟨w.heap.size, 0, none⟩) 0 0, w.alloc (.cells #[] e), .inl ?_, w.heap.size, rfl, h.add ((Step.refl _ _).alloc _) (eOwn e sz (some ⟨w.heap.size, 0, none⟩) 0 0 []) ⟨by simp, .inr ⟨w.heap.size, 0, #[], rfl, hb, Nat.le_refl _, by simp [maxLen], by simp, by simp⟩⟩ (fun k ⟨a, ha, hk⟩ => by cases ha; exact Nat.le_of_eq hk) (fun _ hk => hk)⟩
  unfold execOp
  have e0 : (Array.map (fun x => (default : Value)) (Array.range 0)) = #[] := by simp
  simp [ho, Instr.buildSlice, run_underlying ke.und, sizeOf, typeInfo, hi, newRow, Instr.fill, e0]
end
set_option maxRecDepth 100000 in
theorem clone_ids {S : Nat → Prop} {w0 w : World} {L : List Ent} {A : Option Addr} {n c : Nat} {xs : List Id} (h : St S w0 w L) [ka : HasSl L A n c 32 (xs.flatMap idc)] (hn : n ≤ 1000000000) :
    Calls Try.prog 37 #[.slice A n c] w fun e w' => ∃ A1 c1, e = .returned (.slice A1 n c1) ∧ St S w0 w' (eOwn 33 32 A1 n c1 (xs.flatMap idc) :: L) := by
  have h1 : ∀ u ∈ xs.flatMap idc, u.oneCell' = true := fun u hu => by
    obtain ⟨x, _, hx⟩ := List.mem_flatMap.1 hu
    exact u8s_one _ u hx
  cases A with
  | none =>
    have hn0 : n = 0 := Classical.byContradiction fun hne => by obtain ⟨b, off, e, _⟩ := (h.sl none n c).pos (by omega); cases e
    have hc0 : xs = [] := List.eq_nil_of_length_eq_zero (by have := (h.sl none n c).n_flat idc_length (by omega); omega)
    subst hn0 hc0
    have hnil := fun w => Go.Lib.run_eql_slice_nil (P := Try.prog) w 23 33 none 0 c 0 0 Try.underlying23
    go_enter Try.func37, Try.ntmps37
    go_wp2
    go_ret
    exact ⟨none, 0, rfl, h.nilRow _ _⟩
  | some a =>
    have hnil := fun w => Go.Lib.run_eql_slice_nil (P := Try.prog) w 23 33 (some a) n c 0 0 Try.underlying23
    go_enter Try.func37, Try.ntmps37
    go_wp2_with (first
      | (refine wl_runs rfl (ex_slice0 h _ rfl) ?_; clear h; rintro _ w ⟨g, rfl, h⟩)
      | (refine wl_runs rfl (ex_append h _ _ _ rfl (some ⟨g, 0, none⟩) rfl (some a) n c rfl (h.sl (some a) n c) h1 (by simp [maxLen]; omega) (by omega)) ?_; clear h; rintro _ w ⟨A2, c2, rfl, h⟩))
    go_ret
    exact ⟨A2, c2, by simp, by simpa using h⟩
end Go.Proofs.Ytionnlckjjojnaa
