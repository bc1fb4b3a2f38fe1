/- The examples of chapter 10. -/
import Derived.Test.YtplcoielgencfaaCSplit
namespace Go.Proofs.Ytplcoielgencfaa
open Go.RowKit

set_option maxRecDepth 100000 in
theorem route_awake (w : World) : Calls Try.prog 7 #[] w fun e w' => e = .returned (.bool true) ∧ Step (fun _ => False) w w' := by
  have e3 : (str [98]).toList = [98] := str_toList _
  have e1 : splitM [97, 47, 98] = ([[97], [98]], 0) := by rfl
  have e2 : splitM [97, 47, 47, 98] = ([], 100) := by rfl
  go_enter Try.func7, Try.ntmps7
  go_wp2_with fail
  refine (split_code (l := [97, 47, 98]) (by simp)).mono ?_
  rintro e w1 ⟨A, n, c, rfl, hs1, hS1, _⟩
  rw [e1] at hs1 ⊢
  go_wp2_with fail
  refine (split_code (l := [97, 47, 47, 98]) (by simp)).mono ?_
  rintro e w2 ⟨A2, n2, c2, rfl, hs2, hS2, _⟩
  rw [e2] at hs2 ⊢
  have hn : n = 2 := by have := hs1.len; simp [strs] at this; omega
  subst hn
  obtain ⟨b, off, rfl, _, hc⟩ := (hs1.keep hS2).pos (by decide)
  have hc1 : w2.cell? ⟨b, off + 1, none⟩ = some (.string (str [98])) := hc 1 _ rfl
  go_wp2
  go_ret
  exact ⟨rfl, hS1.tr hS2⟩
end Go.Proofs.Ytplcoielgencfaa
