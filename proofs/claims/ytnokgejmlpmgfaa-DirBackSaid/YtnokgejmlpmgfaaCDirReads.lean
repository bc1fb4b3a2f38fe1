/- The law DirReads: the entries that any bytes are, or that they are none. -/
import Derived.Test.YtnokgejmlpmgfaaCDirOfRef
import Derived.Test.YtnokgejmlpmgfaaCDirAwake
import Derived.Test.YtnokgejmlpmgfaaCEnEq
namespace Go.Proofs.Ytnokgejmlpmgfaa
open Go.RowKit
set_option linter.unusedVariables false
set_option linter.unusedSimpArgs false

set_option maxRecDepth 100000 in
set_option maxHeartbeats 2000000 in
theorem walk_DirReads {w : World} {l : List UInt8} {A : Option Addr} {n c : Nat} (hl : Sl w A n c 1 (u8s l)) :
    Calls Try.prog 8 #[.slice A n c] w fun e w' => e = .returned (.bool true) ∧ Below w.heap.size w w' := by
  have h := St.read0 hl (by omega)
  clear hl
  by_cases hn : n ≤ 3000
  · have hle := dirOf_len (b := l)
    have hok := fun e he => (dirOf_enB (b := l) e he).1
    obtain ⟨O, hO⟩ : ∃ O, dirOf l = O := ⟨_, rfl⟩
    rw [hO] at hle hok
    have HO := Lib.hid hO
    obtain ⟨E, hE⟩ : ∃ E, O.getD [] = E := ⟨_, rfl⟩
    rw [hE] at hle hok
    have HE := Lib.hid hE
    obtain ⟨C, hC⟩ : ∃ C, codeD O = C := ⟨_, rfl⟩
    have HC := Lib.hid hC
    have Hok := Lib.hid hok
    have hcc : (C == C) = true := by simp
    clear hO hE hC hok
    go_enter Try.func8, Try.ntmps8
    go_wp2_with (first
      | (go_at_call 13; refine (dir_awake h).mono ?_; clear h; rintro r w ⟨rfl, h⟩)
      | (go_at_call 35; refine (dir_of (l := l) h (by omega)).mono ?_; rw [HO.out, HE.out, HC.out]; clear h; rintro e w ⟨A1, c1, rfl, h⟩)
      | (go_at_call 36; refine (dir_of_ref (A := A) (n := n) (c := c) (l := l) h (by omega)).mono ?_; rw [HO.out, HE.out, HC.out]; clear h; rintro e w ⟨A2, c2, rfl, h⟩)
      | (go_at_call 37; refine (same_entries (A := A1) (B := A2) (c := c1) (d := c2) (l := E) (m := E) h Hok.out Hok.out (by omega)).mono ?_; rw [decide_eq_true (rfl : E = E)]; clear h; rintro e w ⟨rfl, h⟩))
    go_ret
    exact ⟨rfl, h.step.below⟩
  · go_enter Try.func8, Try.ntmps8
    go_wp2_with (first
      | (go_at_call 13; refine (dir_awake h).mono ?_; clear h; rintro r w ⟨rfl, h⟩))
    go_ret
    exact ⟨rfl, h.step.below⟩
end Go.Proofs.Ytnokgejmlpmgfaa
