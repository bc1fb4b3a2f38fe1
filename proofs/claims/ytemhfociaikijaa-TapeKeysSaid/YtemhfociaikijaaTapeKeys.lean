/- The law TapeKeys: a key is 32 bytes; a tape that nobody made has nothing. -/
import Derived.Test.YtemhfociaikijaaTapeAwake
import Derived.Test.YtemhfociaikijaaTapeKey
import Derived.Test.YtemhfociaikijaaOpen
namespace Go.Proofs.Ytemhfociaikijaa
open Go.RowKit

theorem tape_key' {w : World} {F : Nat → Prop} {g : Nat} {l x l' : List UInt8} {e : Int} (h : TapeIs w F g l) (hF : ∀ k, F k → k < w.heap.size) (hl : l.length ≤ 1000000000000) (hk : keyM l = (x, e, l')) :
    Calls Try.prog 18 #[.pointer (some ⟨g, 0, none⟩)] w fun r w' => r = .returned (.tuple #[arr x, .int .i64 e]) ∧ TapeIs w' F g l' ∧ Step (fun k => k = g) w w' := by
  have := tape_key h hF hl
  rw [hk] at this
  exact this

set_option maxRecDepth 100000 in
theorem walk_TapeKeys {w : World} {A : Option Addr} {n c : Nat} {l : List UInt8} (h : Sl w A n c 1 (u8s l)) :
    Calls Try.prog 5 #[.slice A n c] w fun e w' => e = .returned (.bool true) ∧ Below w.heap.size w w' := by
  obtain ⟨i0, hi, _, hz1, _⟩ := info_parts byte_info
  by_cases hn : 500 < n
  · clear hi hz1
    go_enter Try.func5, Try.ntmps5
    go_wp2_with (go_at_call 12; refine (tape_awake _).mono ?_; rintro e w1 ⟨rfl, hS1⟩)
    go_ret
    exact ⟨rfl, hS1.below⟩
  have hnl := h.n_eq
  by_cases h32 : n < 32
  · have hk : keyM l = (zeros 32, 60, l) := by unfold keyM; rw [if_pos (by omega)]
    have heq := fun W => run_eql_agg (P := Try.prog) (t := 41) Try.underlying41 Try.underlying5 hi hz1 (zeros_length 32) (zeros_length 32) W
    clear hnl hi hz1
    have Hk := Lib.hid hk
    clear hk
    go_enter Try.func5, Try.ntmps5
    go_wp2_with (first
      | (go_at_call 12; refine (tape_awake _).mono ?_; rintro e w1 ⟨rfl, hS1⟩; have h1 := h.keep hS1)
      | (go_at_call 13; refine (tape_new h1 (by omega)).mono ?_; rintro e w2 ⟨F, g, rfl, hT, hS2, hF⟩))
    refine (tape_key' hT (fun k hk => (hF k hk).2) (by have := h.n_eq; omega) Hk.out).mono ?_
    rintro e w3 ⟨rfl, hT3, hS3⟩
    have hgF : F g := by obtain ⟨_, _, _, _, _, h, _⟩ := hT; exact h
    have hg := hF g hgF
    go_wp2_with (first
      | (refine wl_alloc rfl 41 rfl _ key_zero ?_; intro w4 hb4 hs4 hz4)
      | (refine wl_store_all rfl 41 _ _ rfl w3.heap.size rfl (u8s (zeros 32)) rfl (by rw [key_size]; rfl) (u8s_one _) 41 _ hb4 (by rw [arr_size, u8s_length]) ?_; intro w5 hb5 hs5 hz5))
    refine (tape_key_nil _).mono ?_
    rintro e w6 ⟨rfl, hS6⟩
    have hb6 := hb5.step hS6 (fun h => h)
    go_wp2_with (first
      | (refine wl_alloc rfl 41 rfl _ key_zero ?_; intro w7 hb7 hs7 hz7; have hb67 := hb6.step hs7 (fun h => h))
      | (refine wl_store_all rfl 41 _ _ rfl w6.heap.size rfl (u8s (zeros 32)) rfl (by rw [key_size]; rfl) (u8s_one _) 41 _ hb7 (by rw [arr_size, u8s_length]) ?_; intro w8 hb8 hs8 hz8; have hb68 := hb67.step hs8 (fun e => by have := hb6.lt; omega))
      | (go_at_call 16; refine (tape_left_nil _).mono ?_; rintro e w' ⟨rfl, rfl⟩)
      | (go_at_call 17; refine (tape_clone_nil _).mono ?_; rintro e w' ⟨rfl, rfl⟩)
      | (refine wl_load rfl 41 _ rfl w3.heap.size 0 rfl (u8s (zeros 32)) _ Try.underlying41 rfl (by rw [key_size]; rfl) hb68.cells ?_)
      | (refine wl_zero rfl 41 rfl _ key_built ?_))
    go_ret
    refine ⟨rfl, ?_⟩
    have s0 := hS1.size
    have z3 := hS3.size
    have z6 := hS6.size
    refine Step.below ((hS1.tr hS2).trans ((hS3.mono (T := fun k => w.heap.size ≤ k) (fun _ _ e => by subst e; omega)).tr ((hs4.mono (fun _ _ h => h.elim)).tr ((hs5.mono (fun _ _ e => by subst e; omega)).tr ((hS6.mono (fun _ _ h => h.elim)).tr ((hs7.mono (fun _ _ h => h.elim)).tr (hs8.mono (fun _ _ e => by subst e; omega))))))) (fun k hk e => by omega))
  · have hk : keyM l = (l.take 32, 0, l.drop 32) := by unfold keyM; rw [if_neg (by omega)]
    have hlen : (l.take 32).length = 32 := by simp; omega
    clear hnl hi hz1
    have Hk := Lib.hid hk
    have Hlen := Lib.hid hlen
    clear hk hlen
    go_enter Try.func5, Try.ntmps5
    go_wp2_with (first
      | (go_at_call 12; refine (tape_awake _).mono ?_; rintro e w1 ⟨rfl, hS1⟩; have h1 := h.keep hS1)
      | (go_at_call 13; refine (tape_new h1 (by omega)).mono ?_; rintro e w2 ⟨F, g, rfl, hT, hS2, hF⟩))
    refine (tape_key' hT (fun k hk => (hF k hk).2) (by have := h.n_eq; omega) Hk.out).mono ?_
    rintro e w3 ⟨rfl, hT3, hS3⟩
    have hgF : F g := by obtain ⟨_, _, _, _, _, h, _⟩ := hT; exact h
    have hg := hF g hgF
    go_wp2_with (first
      | (refine wl_alloc rfl 41 rfl _ key_zero ?_; intro w4 hb4 hs4 hz4)
      | (refine wl_store_all rfl 41 _ _ rfl w3.heap.size rfl (u8s (l.take 32)) rfl (by rw [key_size, u8s_length, Hlen.out]) (u8s_one _) 41 _ hb4 (by rw [arr_size, u8s_length, Hlen.out, zeros_length]) ?_; intro w5 hb5 hs5 hz5))
    refine (tape_key_nil _).mono ?_
    rintro e w6 ⟨rfl, hS6⟩
    have hb6 := hb5.step hS6 (fun h => h)
    go_wp2_with (first
      | (refine wl_alloc rfl 41 rfl _ key_zero ?_; intro w7 hb7 hs7 hz7; have hb67 := hb6.step hs7 (fun h => h))
      | (refine wl_store_all rfl 41 _ _ rfl w6.heap.size rfl (u8s (zeros 32)) rfl (by rw [key_size]; rfl) (u8s_one _) 41 _ hb7 (by rw [arr_size, u8s_length]) ?_; intro w8 hb8 hs8 hz8; have hb68 := hb67.step hs8 (fun e => by have := hb6.lt; omega))
      | (go_at_call 16; refine (tape_left_nil _).mono ?_; rintro e w' ⟨rfl, rfl⟩)
      | (go_at_call 17; refine (tape_clone_nil _).mono ?_; rintro e w' ⟨rfl, rfl⟩))
    have s0 := hS1.size
    have z2 := hS2.size
    have z3 := hS3.size
    have z6 := hS6.size
    have hw8 : Step (fun _ => False) w w8 := (hS1.tr hS2).trans ((hS3.mono (T := fun k => w.heap.size ≤ k) (fun _ _ e => by subst e; omega)).tr ((hs4.mono (fun _ _ h => h.elim)).tr ((hs5.mono (fun _ _ e => by subst e; omega)).tr ((hS6.mono (fun _ _ h => h.elim)).tr ((hs7.mono (fun _ _ h => h.elim)).tr (hs8.mono (fun _ _ e => by subst e; omega))))))) (fun k hk e => by omega)
    have h8 := h.keep hw8
    have hc1 : Sl w8 A 32 c 1 (u8s (l.take 32)) := by rw [← u8s_take]; simpa using h8.take (show 32 ≤ n by omega) (Nat.le_refl c) (show 32 ≤ c by have := h.le; omega)
    have hc2 : Sl w8 (some ⟨w3.heap.size, 0, none⟩) 32 32 1 (u8s (l.take 32)) := by
      refine ⟨by rw [u8s_length, Hlen.out], Nat.le_refl _, by simp [maxLen], fun _ => ⟨w3.heap.size, 0, rfl, hb68.lt, ?_⟩⟩
      have := hb68.cells
      simpa [Cells] using this
    have hcv1 := fun k => run_bytes_string (P := Try.prog) (src := 22) (dst := 9) Try.underlying22 Try.underlying5 Try.underlying9 hc1 k
    have hcv2 := fun k => run_bytes_string (P := Try.prog) (src := 22) (dst := 9) Try.underlying22 Try.underlying5 Try.underlying9 hc2 k
    have hc : (32 : Int) ≤ (c : Int) := by have := h.le; omega
    go_quiet (fail)
    go_wp2
    go_ret
    exact ⟨by simp, (hw8.drewN nq).below⟩
end Go.Proofs.Ytemhfociaikijaa
