/- Law 11's example. -/
import Derived.Test.YtnokgejmlpmgfaaCDirPut
namespace Go.Proofs.Ytnokgejmlpmgfaa
open Go.RowKit
set_option linter.unusedVariables false
set_option linter.unusedSimpArgs false

theorem doutM_nil : doutM [] = [0] ∧ doutC [] = 0 := by
  have h : dirM [] = true := by simp [dirM]
  rw [doutM, doutC, if_pos h, if_pos h]
  exact ⟨by simp [dirB, nM_small], rfl⟩
theorem dput_nil {S : Nat → Prop} {w0 w : World} {L : List Ent} (h : St S w0 w L) :
    Calls Try.prog 15 #[.slice none 0 0] w fun e w' => ∃ b off c', e = .returned (.tuple #[.slice (some ⟨b, off, none⟩) 1 c', .int .i64 0]) ∧ w'.cell? ⟨b, off, none⟩ = some (.int .u8 0) ∧ St S w0 w' L := by
  have h0 := h.nilRow 87 100
  refine (dput_code (l := []) (A := none) (c := 0) (ka := (inferInstance : HasSl (eOwn 87 100 none 0 0 [] :: L) none 0 0 100 [])) h0 (fun e he => by cases he)).mono ?_
  rintro e w' ⟨A', c', rfl, h2⟩
  rw [doutM_nil.1, doutM_nil.2] at *
  have h3 : St S w0 w' (eOwn 5 1 A' 1 c' (u8s [0]) :: L) := h2.to
  obtain ⟨b, off, rfl, h4⟩ := (h3.sl A' 1 c').pos (by omega)
  exact ⟨b, off, c', rfl, by simpa using h4.2 0 (.int .u8 0) rfl, h3.to⟩
set_option maxRecDepth 100000 in
theorem dir_awake {S : Nat → Prop} {w0 w : World} {L : List Ent} (h : St S w0 w L) :
    Calls Try.prog 13 #[] w fun e w' => e = .returned (.bool true) ∧ St S w0 w' L := by
  go_enter Try.func13, Try.ntmps13
  go_wp2_with (go_at_call 15; refine (dput_nil h).mono ?_; clear h; rintro e w ⟨b, off, c1, rfl, hc, h⟩)
  go_ret
  exact ⟨rfl, h⟩
end Go.Proofs.Ytnokgejmlpmgfaa
