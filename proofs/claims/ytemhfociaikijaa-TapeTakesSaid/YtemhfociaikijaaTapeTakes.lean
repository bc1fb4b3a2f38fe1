/- The law TapeTakes: a tape and the reference's draw the same. -/
import Derived.Test.YtemhfociaikijaaTapeAwake
import Derived.Test.YtemhfociaikijaaOpen
namespace Go.Proofs.Ytemhfociaikijaa
open Go.RowKit

theorem takeM_len (l : List UInt8) (k : Int) : (takeM l k).2.2.length ≤ l.length := by
  unfold takeM
  split
  · exact Nat.le_refl _
  · split
    · exact Nat.le_refl _
    · simp

/-- What the loop keeps. -/
def TakesRel (w : World) (B : Option Addr) (m d : Nat) (k : List Int) (F : Nat → Prop) (g g2 : Nat) (wr : World) : Prop :=
  ∃ q, q.length ≤ 500 ∧ TapeIs wr F g q ∧ RefIs (.int .i64 0) (.slice none 0 0) (.slice none 0 0) (.slice none 0 0) (.bool false) wr (fun j => j < w.heap.size ∨ j = g2) g2 q ∧ Step (fun _ => False) w wr ∧ Sl wr B m d 1 (ints .i64 k)

set_option maxRecDepth 100000 in
theorem walk_TapeTakes {w : World} {A B : Option Addr} {n c m d : Nat} {l : List UInt8} {k : List Int} (h : Sl w A n c 1 (u8s l)) (_ : ∀ x ∈ k, (Lit.int .i64 x).wf = true) (hk : Sl w B m d 1 (ints .i64 k)) :
    Calls Try.prog 3 #[.slice A n c, .slice B m d] w fun e w' => e = .returned (.bool true) ∧ Below w.heap.size w w' := by
  by_cases hn : 500 < n
  · go_enter Try.func3, Try.ntmps3
    go_wp2_with (go_at_call 12; refine (tape_awake _).mono ?_; rintro e w1 ⟨rfl, hS1⟩)
    go_ret
    exact ⟨rfl, hS1.below⟩
  by_cases hm : 40 < m
  · go_enter Try.func3, Try.ntmps3
    go_wp2_with (go_at_call 12; refine (tape_awake _).mono ?_; rintro e w1 ⟨rfl, hS1⟩)
    go_ret
    exact ⟨rfl, hS1.below⟩
  go_enter Try.func3, Try.ntmps3
  go_wp2_with (first | (go_at_call 12; refine (tape_awake _).mono ?_; rintro e w1 ⟨rfl, hS1⟩; have h1 := h.keep hS1) | (go_at_call 13; refine (tape_new h1 (by omega)).mono ?_; rintro e w2 ⟨F, g, rfl, hT, hS2, hF⟩))
  have hgF : F g := by obtain ⟨_, _, _, _, _, h, _⟩ := hT; exact h
  have hFb : ∀ j, F j → w.heap.size ≤ j ∧ j < w2.heap.size := fun j hj => ⟨Nat.le_trans hS1.size (hF j hj).1, (hF j hj).2⟩
  have h12 := hS1.tr hS2
  have h0 : TakesRel w B m d k F g w2.heap.size (w2.alloc (.cells #[.int .i64 0, .slice A n c, .slice none 0 0, .slice none 0 0, .slice none 0 0, .bool false] 30)) := by
    have h2 := h1.keep hS2
    refine ⟨l, by rw [← h.n_eq]; omega, hT.step ((Step.refl (fun _ => False) _).alloc _) (fun _ _ h => h), ⟨A, n, c, Blk.new _ _ _, h2.alloc _, .inr rfl, fun j hj => ?_, ?_⟩, h12.alloc _, (hk.keep h12).alloc _⟩
    · have := h.ft_lt (by omega) hj
      exact .inl this
    · intro hj
      have := h.ft_lt (by omega) hj
      have := h12.size
      omega
  go_loopw [30] (fun i wr => ∃ j : Nat, j ≤ m ∧ i = .int .i64 j ∧ TakesRel w B m d k F g w2.heap.size wr) (fun i _ => m - (intOf i).toNat)
  case atStart => exact ⟨0, Nat.zero_le _, rfl, h0⟩
  case round =>
    obtain ⟨j, hj, rfl, q, hq, hT3, hR3, hS3, hk3⟩ := hrel
    clear h0 hT
    by_cases hlt : j < m
    · obtain ⟨b, off, rfl, u, hu, hc⟩ := hk3.at_ hlt
      have hu' : ∃ v, u = .int .i64 v := by
        rw [ints, List.getElem?_map] at hu
        cases hkj : k[j]? with
        | none => rw [hkj] at hu; cases hu
        | some v => rw [hkj] at hu; exact ⟨v, by simpa using hu.symm⟩
      obtain ⟨v, rfl⟩ := hu'
      clear hu
      obtain ⟨x, e, q', hr⟩ : ∃ x e q', takeM q v = (x, e, q') := ⟨_, _, _, rfl⟩
      have hq' : q'.length ≤ 500 := by have := takeM_len q v; rw [hr] at this; simp at this; omega
      have Hr := Lib.hid hr
      clear hr
      go_wp2_with fail
      refine (tape_take' hT3 (by omega) Hr.out).mono ?_
      rintro e1 w4 ⟨A1, m1, c1, rfl, hs1, hf1, hT4, hS4⟩
      have hR4 := hR3.step hS4 (fun i hi e => by subst e; have := hFb _ hgF; omega)
      go_wp2_with fail
      refine (ref_take' hR4 (by omega) Hr.out).mono ?_
      rintro e2 w5 ⟨A2, m2, c2, rfl, hs2, hf2, hR5, hS5⟩
      have hsz3 := hS3.size
      have hsz4 := hS4.size
      have hg4 : w2.heap.size < wr.heap.size := by obtain ⟨_, _, _, hb, _⟩ := hR3; exact hb.lt
      have hs1' := hs1.step hS5 (fun i hi e => by have := (hf1 i hi.at_).1; omega)
      have hT5 := hT4.step hS5 (fun i hi e => by have := (hFb i hi).2; omega)
      have hcv1 := fun k => run_bytes_string (P := Try.prog) (src := 22) (dst := 9) Try.underlying22 Try.underlying5 Try.underlying9 hs1' k
      have hcv2 := fun k => run_bytes_string (P := Try.prog) (src := 22) (dst := 9) Try.underlying22 Try.underlying5 Try.underlying9 hs2 k
      obtain ⟨A3, n3, c3, hb3, hs3, _, _⟩ := id hR5
      have hn3 := hs3.n_eq
      subst hn3
      have hc3 := hb3.cell 1
      simp at hc3
      clear hs3 hb3
      go_wp2_with fail
      go_quiet ((go_at_call 16; exact quiet_left (tape_left (hT5.step ((Step.refl (fun _ => False) _).drewN _) (fun _ _ h => h)))))
      go_wp2
      have hw5 : Step (fun _ => False) w (w5.drewN nq) := (hS3.trans ((hS4.mono (T := fun k => w.heap.size ≤ k) (fun i _ e => by subst e; exact (hFb _ hgF).1)).tr (hS5.mono (fun i _ e => by subst e; have := h12.size; omega))) (fun i hi e => by omega)).drewN nq
      have hk5 := hk.keep hw5
      have d5 : Step (fun _ => False) w5 (w5.drewN nq) := (Step.refl _ _).drewN nq
      go_roundw
      case rel => exact ⟨j + 1, by omega, by go_num, q', hq', hT5.step d5 (fun _ _ h => h), hR5.step d5 (fun _ _ h => h), hw5, hk5⟩
      case measure => simp [intOf]; omega
    · go_wp2
      go_ret
      exact ⟨rfl, hS3.below⟩
end Go.Proofs.Ytemhfociaikijaa
