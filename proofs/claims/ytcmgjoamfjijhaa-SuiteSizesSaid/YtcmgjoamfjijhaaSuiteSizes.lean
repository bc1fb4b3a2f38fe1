/- Sizes of what is sealed, held against the reference's. -/
import Derived.Test.YtcmgjoamfjijhaaAwake07
namespace Go.Proofs.Ytcmgjoamfjijhaa
open Go.RowKit Go.Maps
set_option linter.unusedVariables false
set_option linter.unusedSimpArgs false

theorem su_size2 {S : Nat → Prop} {w0 w : World} {L F : List Ent} {g : Nat} {k : SuAt} {s : Su} (h : St S w0 w L) [sl : SlotU L g k s F] (n : Int) (hn : (Lit.int .i64 n).wf = true) {v : Nat} (hv : sizeM n = v) :
    Calls Try.prog 12 #[.pointer (some ⟨g, 0, none⟩), .int .i64 n] w fun e w' => e = .returned (.int .i64 (v : Int)) ∧ St S w0 w' (eSu g k s :: F) := by subst hv; exact su_size h n hn
set_option maxRecDepth 100000 in
theorem walk_SuiteSizes {w0 : World} {n : Int} (hn : (Lit.int .i64 n).wf = true) :
    Calls Try.prog 3 #[.int .i64 n] w0 fun e w' => e = .returned (.bool true) ∧ Below w0.heap.size w0 w' := by
  have h := St.nil w0
  obtain ⟨b, hb⟩ : ∃ b, bkt n = b := ⟨_, rfl⟩
  have hsz : sizeM n = if b = 0 then 0 else 44 + b := by rw [sizeM, hb]
  obtain ⟨v, hv⟩ : ∃ v, sizeM n = v := ⟨_, rfl⟩
  have hvb : ((v : Int) == 0) = ((b : Int) == 0) := by
    rw [← hv, hsz]
    split
    · rename_i hb0; rw [hb0]
    · have e1 : (((44 + b : Nat) : Int) == 0) = false := by simp; omega
      have e2 : ((b : Int) == 0) = false := by simp; omega
      rw [e1, e2]
  have Hb := Lib.hid hb
  have Hv := Lib.hid hv
  clear hsz hb hv
  obtain ⟨B, hB⟩ : ∃ B, ((b : Int) == 0) = B := ⟨_, rfl⟩
  rw [hB] at hvb
  go_enter Try.func3, Try.ntmps3
  go_wp2_with (first
    | (go_at_call 10; refine (su_awake h).mono ?_; clear h; rintro e w ⟨rfl, h⟩; replace h := h.nilTp)
    | (go_at_call 11; refine (su_new0 (tp := none) h).mono ?_; clear h; rintro e w ⟨g, k, rfl, h⟩)
    | (go_at_call 12; refine (su_size2 (g := g) h n hn Hv.out).mono ?_; clear h; rintro e w ⟨rfl, h⟩)
    | (go_at_call 13; refine (size_ref h n hn).mono ?_; rw [Hv.out]; rintro e w ⟨rfl, rfl⟩)
    | (go_at_call 14; refine (bkt_ref h n hn).mono ?_; rw [Hb.out]; rintro e w ⟨rfl, rfl⟩))
  go_ret
  exact ⟨rfl, h.step.below⟩
end Go.Proofs.Ytcmgjoamfjijhaa
