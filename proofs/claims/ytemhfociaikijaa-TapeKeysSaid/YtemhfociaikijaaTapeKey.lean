/- Tape.Key. -/
import Derived.Test.YtemhfociaikijaaTape
import Derived.Test.YtemhfociaikijaaAgg
namespace Go.Proofs.Ytemhfociaikijaa
open Go.RowKit

theorem key_zero : (Try.prog.info? 41).map (·.zero) = some (some (arr (zeros 32))) := by kernel_rfl
theorem key_built : Try.prog.built 41 [] = some (u8s (zeros 32)).toArray := by kernel_rfl
theorem key_size : (Try.prog.info? 41).map (·.size) = some 32 := by kernel_rfl

def keyM (l : List UInt8) : List UInt8 × Int × List UInt8 := if l.length < 32 then (zeros 32, 60, l) else (l.take 32, 0, l.drop 32)

def KeyEnd (w : World) (F : Nat → Prop) (g : Nat) (is : World → (Nat → Prop) → Nat → List UInt8 → Prop) (r : List UInt8 × Int × List UInt8) (e : Ending) (w' : World) : Prop :=
  e = .returned (.tuple #[arr r.1, .int .i64 r.2.1]) ∧ is w' F g r.2.2 ∧ Step (fun k => k = g) w w'

set_option maxRecDepth 100000 in
theorem tape_key {w : World} {F : Nat → Prop} {g : Nat} {l : List UInt8} (h : TapeIs w F g l) (hF : ∀ k, F k → k < w.heap.size) (hl : l.length ≤ 1000000000000) :
    Calls Try.prog 18 #[.pointer (some ⟨g, 0, none⟩)] w (KeyEnd w F g TapeIs (keyM l)) := by
  have hgF : g < w.heap.size := hF _ (by obtain ⟨_, _, _, _, _, h, _⟩ := h; exact h)
  unfold keyM
  by_cases h32 : l.length < 32
  · rw [if_pos h32]
    go_enter Try.func18, Try.ntmps18
    go_wp2_with (first
      | (refine wl_alloc rfl 41 rfl _ key_zero ?_; intro w1 hb1 hs1 hz1; have hT1 := h.step hs1 (fun _ _ h => h))
      | (go_at_call 14; refine (tape_take' (x := []) (n := 60) (l' := l) hT1 hl (by simp [takeM]; omega)).mono ?_; rintro e w2 ⟨A2, m2, c2, rfl, hs2, hf2, hT2, hS2⟩; have hb2 := hb1.step hS2 (fun e => by omega))
      | (refine wl_zero rfl 41 rfl _ key_built ?_)
      | (refine wl_store_all rfl 41 _ _ rfl w.heap.size rfl (u8s (zeros 32)) rfl (by rw [key_size]; rfl) (u8s_one _) 41 _ hb2 (by rw [arr_size, u8s_length]) ?_; intro w3 hb3 hs3 hz3))
    (try simp only [Exit.inBlock, Exit.then])
    refine bodyPost_ret (res_cell_tmp rfl rfl rfl (arr_load Try.underlying41 key_size (zeros_length 32) hb3)) rfl ?_
    exact ⟨rfl, hT2.step hs3 (fun k hk e => by have := hF k hk; omega), ((hs1.mono (fun _ _ h => h.elim)).tr hS2).trans hs3 (fun k hk e => by omega)⟩
  · rw [if_neg h32]
    have harr := fun (a : Option Addr) (c : Nat) (W : World) => run_arrayAt (P := Try.prog) W 41 5 32 a 32 c Try.underlying41 (by omega)
    go_enter Try.func18, Try.ntmps18
    go_wp2_with (first
      | (refine wl_alloc rfl 41 rfl _ key_zero ?_; intro w1 hb1 hs1 hz1; have hT1 := h.step hs1 (fun _ _ h => h))
      | (go_at_call 14; refine (tape_take' (x := l.take 32) (n := 0) (l' := l.drop 32) hT1 hl (by simp [takeM]; omega)).mono ?_; rintro e w2 ⟨A2, m2, c2, rfl, hs2, hf2, hT2, hS2⟩; have hb2 := hb1.step hS2 (fun e => by omega); have hm : m2 = 32 := hs2.n_eq.trans (by simp; omega); subst hm; obtain ⟨b, off, rfl, _, _⟩ := hs2.pos (by omega))
      | (refine wl_load rfl 41 _ rfl b off rfl (u8s (l.take 32)) _ Try.underlying41 rfl (by rw [key_size, u8s_length]; simp; omega) (hs2.cells rfl) ?_)
      | (refine wl_store_all rfl 41 _ _ rfl w.heap.size rfl (u8s (l.take 32)) rfl (by rw [key_size, u8s_length]; simp; omega) (u8s_one _) 41 _ hb2 (by rw [arr_size, u8s_length, zeros_length]; simp; omega) ?_; intro w3 hb3 hs3 hz3))
    (try simp only [Exit.inBlock, Exit.then])
    refine bodyPost_ret (res_cell_tmp rfl rfl rfl (arr_load Try.underlying41 key_size (by simp; omega) hb3)) rfl ?_
    exact ⟨rfl, hT2.step hs3 (fun k hk e => by have := hF k hk; omega), ((hs1.mono (fun _ _ h => h.elim)).tr hS2).trans hs3 (fun k hk e => by omega)⟩

set_option maxRecDepth 100000 in
theorem tape_take_nil (w : World) : Calls Try.prog 14 #[.pointer none, .int .i64 32] w fun e w' => e = .returned (.tuple #[.slice none 0 0, .int .i64 60]) ∧ w = w' := by
  go_enter Try.func14, Try.ntmps14
  go_wp2_with (go_at_call 16; refine (tape_left_nil _).mono ?_; rintro e w' ⟨rfl, rfl⟩)
  go_ret2
  exact ⟨rfl, rfl⟩

set_option maxRecDepth 100000 in
theorem tape_key_nil (w : World) : Calls Try.prog 18 #[.pointer none] w fun e w' => e = .returned (.tuple #[arr (zeros 32), .int .i64 60]) ∧ Step (fun _ => False) w w' := by
  go_enter Try.func18, Try.ntmps18
  go_wp2_with (first
    | (refine wl_alloc rfl 41 rfl _ key_zero ?_; intro w1 hb1 hs1 hz1)
    | (go_at_call 14; refine (tape_take_nil _).mono ?_; rintro e w2 ⟨rfl, rfl⟩)
    | (refine wl_zero rfl 41 rfl _ key_built ?_)
    | (refine wl_store_all rfl 41 _ _ rfl w.heap.size rfl (u8s (zeros 32)) rfl (by rw [key_size]; rfl) (u8s_one _) 41 _ hb1 (by rw [arr_size, u8s_length]) ?_; intro w3 hb3 hs3 hz3))
  (try simp only [Exit.inBlock, Exit.then])
  refine bodyPost_ret (res_cell_tmp rfl rfl rfl (arr_load Try.underlying41 key_size (zeros_length 32) hb3)) rfl ?_
  exact ⟨rfl, hs1.trans hs3 (fun k hk e => by omega)⟩
end Go.Proofs.Ytemhfociaikijaa
