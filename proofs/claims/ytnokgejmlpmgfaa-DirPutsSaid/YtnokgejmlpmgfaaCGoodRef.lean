/- The reference's names. -/
import Derived.Test.YtnokgejmlpmgfaaCGood
namespace Go.Proofs.Ytnokgejmlpmgfaa
open Go.RowKit

set_option maxRecDepth 100000 in
theorem good_ref {w : World} {l : List UInt8} (hl : l.length ≤ 1000000000) :
    Calls Try.prog 38 #[.string (str l)] w fun e w' => e = .returned (.bool (goodM l)) ∧ w' = w := by
  have hsz := str_size l
  have hda := str_toList l
  go_enter Try.func38, Try.ntmps38
  go_wp2
  go_loop [3] (fun i => ∃ k : Nat, k ≤ l.length ∧ i = .int .i64 k ∧ ∀ c ∈ l.take k, c ≠ 0 ∧ c ≠ 47) (fun i => l.length - (intOf i).toNat)
  case atStart => exact ⟨0, Nat.zero_le _, rfl, by simp⟩
  case round =>
    obtain ⟨k, hk, rfl, ha⟩ := hrel
    by_cases hlt : k < l.length
    · by_cases h0 : l[k] = 0
      · have hx : ((str l)[k]'(by omega)).toNat = 0 := by rw [str_get, h0]; rfl
        go_wp2
        go_ret
        exact ⟨by rw [goodM_sign hlt (.inl h0)]; rfl, rfl⟩
      · by_cases h1 : l[k] = 47
        · have hx : ((str l)[k]'(by omega)).toNat = 47 := by rw [str_get, h1]; rfl
          go_wp2
          go_ret
          exact ⟨by rw [goodM_sign hlt (.inr h1)]; rfl, rfl⟩
        · have ha' := take_all ha hlt ⟨h0, h1⟩
          have hx := sign_no (k := k) (by omega) h0 (n := 0) rfl
          have hy := sign_no (k := k) (by omega) h1 (n := 47) rfl
          go_wp2
          exact ⟨⟨k + 1, by omega, by go_num, ha'⟩, by simp only [intOf]; omega⟩
    · rw [List.take_of_length_le (by omega)] at ha
      go_wp2
      go_ways
      · rename_i h _
        go_ret
        subst h
        exact ⟨rfl, rfl⟩
      · rename_i h1 h2 h _
        go_ret
        refine ⟨congrArg (fun b => Ending.returned (.bool b)) (?_ : (!l == [46] && !l == [46, 46]) = goodM l), rfl⟩
        by_cases h3 : l = [46, 46]
        · subst h3; rfl
        · rw [(goodM_iff l).2 ⟨by omega, by omega, h, h3, ha⟩]
          simp [h, h3]
      · go_ret
        exact ⟨congrArg (fun b => Ending.returned (.bool b)) (goodM_no (fun e => by omega)).symm, rfl⟩
      · go_ret
        exact ⟨congrArg (fun b => Ending.returned (.bool b)) (goodM_no (fun e => by omega)).symm, rfl⟩
end Go.Proofs.Ytnokgejmlpmgfaa
