/- The law TapeClones: a clone goes on alike, and by itself. -/
import Derived.Test.YtemhfociaikijaaTapeAwake
import Derived.Test.YtemhfociaikijaaOpen
namespace Go.Proofs.Ytemhfociaikijaa
open Go.RowKit

theorem TapeIs.len_take (l : List UInt8) (k : Int) (h : l.length ≤ 500) {x l' : List UInt8} {e : Int} (hr : takeM l k = (x, e, l')) : l'.length ≤ 500 := by
  have : (takeM l k).2.2.length ≤ l.length := by
    unfold takeM
    split
    · exact Nat.le_refl _
    · split
      · exact Nat.le_refl _
      · simp
  rw [hr] at this
  simp at this
  omega

set_option maxRecDepth 100000 in
theorem walk_TapeClones {w : World} {A : Option Addr} {n c : Nat} {l : List UInt8} {i j : Int} (h : Sl w A n c 1 (u8s l)) (_ : (Lit.int .i64 i).wf = true) (_ : (Lit.int .i64 j).wf = true) :
    Calls Try.prog 4 #[.slice A n c, .int .i64 i, .int .i64 j] w fun e w' => e = .returned (.bool true) ∧ Below w.heap.size w w' := by
  by_cases hn : 500 < n
  · go_enter Try.func4, Try.ntmps4
    go_wp2_with (go_at_call 12; refine (tape_awake _).mono ?_; rintro e w1 ⟨rfl, hS1⟩)
    go_ret
    exact ⟨rfl, hS1.below⟩
  obtain ⟨x0, e0, l1, hr0⟩ : ∃ x e l', takeM l i = (x, e, l') := ⟨_, _, _, rfl⟩
  obtain ⟨x1, e1, l2, hr1⟩ : ∃ x e l', takeM l1 j = (x, e, l') := ⟨_, _, _, rfl⟩
  have hl0 : l.length ≤ 500 := by rw [← h.n_eq]; omega
  have hl1 := TapeIs.len_take l i hl0 hr0
  have hl2 := TapeIs.len_take l1 j hl1 hr1
  have H0 := Lib.hid hr0
  have H1 := Lib.hid hr1
  clear hr0 hr1
  go_enter Try.func4, Try.ntmps4
  go_wp2_with (first | (go_at_call 12; refine (tape_awake _).mono ?_; rintro e w1 ⟨rfl, hS1⟩; have h1 := h.keep hS1) | (go_at_call 13; refine (tape_new h1 (by omega)).mono ?_; rintro e w2 ⟨F, g, rfl, hT, hS2, hF⟩))
  refine (tape_take' hT (by omega) H0.out).mono ?_
  rintro e w3 ⟨A3, m3, c3, rfl, hs3, hf3, hT3, hS3⟩
  go_wp2_with fail
  refine (tape_clone hT3 (by omega)).mono ?_
  rintro e w4 ⟨F', g', rfl, hC4, hS4, hF'⟩
  have hT4 := hT3.step hS4 (fun _ _ h => h)
  go_wp2_with fail
  refine (tape_left hC4).mono ?_
  rintro e w' ⟨rfl, rfl⟩
  go_wp2_with fail
  refine (tape_left hT4).mono ?_
  rintro e w' ⟨rfl, rfl⟩
  go_wp2_with fail
  have hgF : F g := by obtain ⟨_, _, _, _, _, h, _⟩ := hT; exact h
  have hgF' : F' g' := by obtain ⟨_, _, _, _, _, h, _⟩ := hC4; exact h
  have b1 := hF _ hgF
  have b2 := hF' _ hgF'
  have z3 := hS3.size
  refine (tape_take' hT4 (by omega) H1.out).mono ?_
  rintro e w5 ⟨A5, m5, c5, rfl, hs5, hf5, hT5, hS5⟩
  have hC5 := hC4.step hS5 (fun k hk e => by have := hF' k hk; omega)
  go_wp2_with fail
  refine (tape_take' hC5 (by omega) H1.out).mono ?_
  rintro e w6 ⟨A6, m6, c6, rfl, hs6, hf6, hC6, hS6⟩
  have hs5' := hs5.step hS6 (fun k hk e => by have := hf5 k hk.at_; omega)
  have hcv1 := run_bytes_string0 (P := Try.prog) (src := 22) (dst := 9) Try.underlying22 Try.underlying5 Try.underlying9 hs5'
  have hcv2 := run_bytes_string0 (P := Try.prog) (src := 22) (dst := 9) Try.underlying22 Try.underlying5 Try.underlying9 hs6
  go_wp2
  go_ret
  refine ⟨rfl, ?_⟩
  have s0 := hS1.size
  refine Step.below ((hS1.tr hS2).trans (((hS3.mono (T := fun k => w.heap.size ≤ k) (fun _ _ e => by subst e; omega)).tr ((hS4.mono (fun _ _ h => h.elim)).tr ((hS5.mono (fun _ _ e => by subst e; omega)).tr (hS6.mono (fun _ _ e => by subst e; omega)))))) (fun k hk e => by omega))
end Go.Proofs.Ytemhfociaikijaa
