/- A part of a variable: read as a slice; copied into. Program independent. -/
import Derived.Test.YtjnaiicgincndaaRd
namespace Go.Proofs.Ytjnaiicgincndaa
open Go.RowKit
set_option linter.unusedVariables false
set_option linter.unusedSimpArgs false

instance (priority := low) HasSl.part (g off n : Nat) (t : TypeId) (xs ys : List Value) (L : List Ent) [kp : Part xs off n ys] [kr : Row ys n] : HasSl (eBlk g t xs :: L) (some ⟨g, off, none⟩) n n 1 ys := ⟨fun w hw => by
  have hb : Blk w g t xs.toArray := hw (eBlk g t xs) List.mem_cons_self
  refine ⟨by rw [kr.len, Nat.mul_one], Nat.le_refl _, by have := kr.small; simp [maxLen]; omega, fun _ => ⟨g, off, rfl, hb.lt, fun i u hu => ?_⟩⟩
  have hc : Cells w g off ys := hb.part (by rw [kr.len]; exact kp.eq)
  exact hc i u hu⟩
section
variable {P : Program} {ρ : Operand → Value} {o : Oper} {S : Nat → Prop} {w0 w : World} {L F : List Ent}
/-- copy into a part of a variable: an id's bytes, or none. -/
theorem ex_copy_id (h : St S w0 w L) (d s : Operand) (dT sT : TypeId) (ho : o.op = .call { callee := .builtin .copy, args := #[d, s], argTypes := #[dT, sT] }) {e : TypeId} {bytes : Nat} [ke : Elm P dT e 1 bytes]
    (g off : Nat) (hd : ρ d = .slice (some ⟨g, off, none⟩) 32 32) {t : TypeId} {xs xs' : List Value} (x : Id) [kb : SlotB L g t xs F] [kp : Part xs off 32 (u8s (zeros 32))] [kq : PutN xs off (u8s x.1) xs'] (B : Option Addr) (m k : Nat) (hs : ρ s = .slice B m k) {ys : List Value} (hr : Sl w B m k 1 ys) (hc : (m = 32 ∧ ys = u8s x.1) ∨ (m = 0 ∧ x = idz)) :
    Runs P ρ o w fun v w' => St S w0 w' (eBlk g t xs' :: F) := by
  obtain ⟨i, z, hi, hz, hsize, hby, hzs⟩ := ke.info
  have hinf : (P.info? e).map (·.size) = some 1 := by rw [hi, Option.map_some, hsize]
  have hb := h.blk g (k := kb)
  have exec : ∀ v w', (Builtin.copy_ #[dT, sT] o.type #[.slice (some ⟨g, off, none⟩) 32 32, .slice B m k]).run P w = .ok v w' → (execOp ρ o).run P w = .ok (.value v) w' := fun v w' hrun => by
    unfold execOp
    simp only [ho, resolve, invoke, builtin, Sem.run_bind, Sem.run_pure, Result.andThen_ok, List.map_toArray, List.map_cons, List.map_nil, hd, hs, hrun]
  rcases hc with ⟨rfl, rfl⟩ | ⟨rfl, rfl⟩
  · have hxl : (u8s x.1).length = 32 := by rw [u8s_length, x.2]
    obtain ⟨b, o2, rfl, _, hcs⟩ := hr.pos (by omega)
    have hrun := run_copy_row (P := P) w dT sT o.type e g off 32 32 ⟨b, o2, none⟩ 32 k xs.toArray t (u8s x.1) ke.und hinf hb (by rw [hxl]; rfl) (fun j v hv => by
      rw [add_none]
      exact hcs j v hv) (by have := kq.le; simpa using this) (u8s_one _)
    obtain ⟨hb', hs'⟩ := Blk.setRow (w := w) hb (xs.take off ++ u8s x.1 ++ xs.drop (off + (u8s x.1).length)).toArray
    refine ⟨by simp [ho], by simp [Oper.about, ho, resolve, Target.leads], _, _, .inl (exec _ _ hrun), h.set (k := ⟨kb.perm⟩) (eBlk g t xs') hs' ?_ (fun k hk => .inl hk) (fun _ hk => hk)⟩
    have := kq.eq
    rw [← this]
    exact hb'
  · have hrun := run_copy_none (P := P) w dT sT o.type e (some ⟨g, off, none⟩) B 32 32 0 k ke.und hinf (by rfl)
    refine ⟨by simp [ho], by simp [Oper.about, ho, resolve, Target.leads], _, w, .inl (exec _ _ hrun), ?_⟩
    have e1 : xs' = xs := by
      rw [← kq.eq]
      have h1 := kp.eq
      have h2 : (u8s idz.1).length = 32 := by rw [u8s_length, idz.2]
      rw [h2]
      have h3 : u8s idz.1 = (xs.drop off).take 32 := h1.symm
      rw [h3, ← List.drop_drop, List.append_assoc, List.take_append_drop, List.take_append_drop]
    rw [e1]
    exact h.perm kb.perm
end
end Go.Proofs.Ytjnaiicgincndaa
