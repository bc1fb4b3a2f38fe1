/- awake of chapter 6: its example. -/
import Derived.Test.YtemhfociaikijaaTape
namespace Go.Proofs.Ytemhfociaikijaa
open Go.RowKit

set_option maxRecDepth 100000 in
theorem tape_awake (w : World) : Calls Try.prog 12 #[] w fun e w' => e = .returned (.bool true) ∧ Step (fun _ => False) w w' := by
  have hl : Sl (w.alloc (.cells #[.int .u8 1, .int .u8 2, .int .u8 3] 5)) (some ⟨w.heap.size, 0, none⟩) 3 3 1 (u8s [1, 2, 3]) := by
    have := (Blk.new w 5 #[.int .u8 1, .int .u8 2, .int .u8 3])
    refine ⟨rfl, by omega, by simp [maxLen], fun _ => ⟨w.heap.size, 0, rfl, by simp, fun i u hu => ?_⟩⟩
    rw [Nat.zero_add, this.cell]
    simpa [u8s, u8v] using hu
  go_enter Try.func12, Try.ntmps12
  go_wp2_with (go_at_call 13; refine (tape_new hl (by omega)).mono ?_; rintro e w1 ⟨F, g, rfl, hT, hS, hF⟩)
  go_wp2_with fail
  refine (tape_take' (x := [1, 2]) (n := 0) (l' := [3]) hT (by simp) (by decide)).mono ?_
  rintro e w2 ⟨A1, m1, c1, rfl, hs1, hf1, hT1, hS1⟩
  have hm1 : m1 = 2 := hs1.n_eq
  subst hm1
  go_wp2_with fail
  refine (tape_take' (x := []) (n := 60) (l' := [3]) hT1 (by simp) (by decide)).mono ?_
  rintro e w3 ⟨A2, m2, c2, rfl, hs2, hf2, hT2, hS2⟩
  have hg : F g := by obtain ⟨_, _, _, _, _, h, _⟩ := hT; exact h
  have hg1 := hF g hg
  simp at hg1
  have hs1' := hs1.step hS2 (fun k hk e => by have := (hf1 k hk.at_).1; omega)
  obtain ⟨b, off, rfl, u, hu, hc⟩ := hs1'.at_ (k := 1) (by omega)
  have hu' : u = .int .u8 2 := by simp [u8s, u8v] at hu; exact hu.symm
  subst hu'
  go_wp2_with (go_at_call 16; refine (tape_left hT2).mono ?_; rintro e w' ⟨rfl, rfl⟩)
  go_ret
  refine ⟨rfl, ?_⟩
  refine (((Step.refl _ _).alloc _).tr hS).trans (hS1.tr hS2) (fun i hi e => ?_)
  subst e
  omega
end Go.Proofs.Ytemhfociaikijaa
