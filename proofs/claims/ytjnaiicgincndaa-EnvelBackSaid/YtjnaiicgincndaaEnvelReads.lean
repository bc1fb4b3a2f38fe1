/- The law EnvelReads: the envelope that any bytes are, or that they are none. -/
import Derived.Test.YtjnaiicgincndaaEnvOfRef
import Derived.Test.YtjnaiicgincndaaSameEnv
import Derived.Test.YtjnaiicgincndaaAwake09
namespace Go.Proofs.Ytjnaiicgincndaa
open Go.RowKit
set_option linter.unusedVariables false
set_option linter.unusedSimpArgs false

set_option maxRecDepth 100000 in
set_option maxHeartbeats 2000000 in
theorem walk_EnvelReads {w : World} {l : List UInt8} {A : Option Addr} {n c : Nat} (hl : Sl w A n c 1 (u8s l)) :
    Calls Try.prog 6 #[.slice A n c] w fun e w' => e = .returned (.bool true) ∧ Below w.heap.size w w' := by
  have h := St.read0 hl (by omega)
  clear hl
  by_cases hn : n ≤ 2000
  · have hle := envOf_le l
    obtain ⟨O, hO⟩ : ∃ O, envOf l = O := ⟨_, rfl⟩
    rw [hO] at hle
    have HO := Lib.hid hO
    obtain ⟨E, hE⟩ : ∃ E, O.getD envZ = E := ⟨_, rfl⟩
    rw [hE] at hle
    have HE := Lib.hid hE
    obtain ⟨C, hC⟩ : ∃ C, codeM O 90 = C := ⟨_, rfl⟩
    have HC := Lib.hid hC
    clear hO hE hC
    obtain ⟨k, r, p, I, t⟩ := E
    simp only at hle
    have h1 := hle.1
    have tr := True.intro
    go_enter Try.func6, Try.ntmps6
    go_wp2_with (first
      | (go_at_call 23; refine (envel_awake _).mono ?_; rintro r w ⟨rfl, hs⟩; replace h := h.quiet hs; clear hs)
      | (go_at_call 24; refine (env_of (l := l) h (by omega)).mono ?_; rw [HO.out, HE.out, HC.out]; clear h; rintro e w ⟨A1, c1, B1, d1, rfl, h⟩)
      | (go_at_call 25; refine (env_of_ref (A := A) (n := n) (c := c) (l := l) h (by omega)).mono ?_; rw [HO.out, HE.out, HC.out]; clear h; rintro e w ⟨A2, c2, B2, d2, rfl, h⟩)
      | (go_at_call 26; refine (same_env (e := ⟨k, r, p, I, t⟩) (h.sl A1 I.length c1) (h.sl B1 t.length d1) (h.sl A2 I.length c2) (h.sl B2 t.length d2) (by show I.length ≤ _; omega)).mono ?_; rintro e w ⟨rfl, hs⟩; replace h := h.quiet hs; clear hs)
      | (clear tr; refine wl_runs rfl (ex_alloc h 48 rfl) ?_; clear h; rintro _ w ⟨g1, rfl, h⟩)
      | (refine wl_runs rfl (ex_alloc h 48 rfl) ?_; clear h; rintro _ w ⟨g2, rfl, h⟩)
      | (refine wl_runs rfl (ex_store h _ _ _ rfl _ _ rfl [_, _, _, _, _] rfl) ?_; clear h; rintro _ w ⟨rfl, h⟩; try dsimp only [Act.put])
      | (refine wl_reads rfl (ex_loadv h _ _ rfl _ _ rfl) ?_) | (refine wl_runs rfl (ex_store1i h _ _ _ rfl _ _ rfl _ _ rfl) ?_; clear h; rintro _ w ⟨rfl, h⟩; try dsimp only [Act.put]) | (refine wl_runs rfl (ex_store1s h _ _ _ rfl _ _ rfl _ _ _ rfl) ?_; clear h; rintro _ w ⟨rfl, h⟩; try dsimp only [Act.put]) | (refine wl_runs rfl (ex_store1b h _ _ _ rfl _ _ rfl _ rfl) ?_; clear h; rintro _ w ⟨rfl, h⟩; try dsimp only [Act.put]) | (refine wl_runs rfl (ex_store1t h _ _ _ rfl _ _ rfl _ rfl) ?_; clear h; rintro _ w ⟨rfl, h⟩; try dsimp only [Act.put]) | (refine wl_runs rfl (ex_store1p h _ _ _ rfl _ _ rfl _ rfl) ?_; clear h; rintro _ w ⟨rfl, h⟩; try dsimp only [Act.put]) | (refine wl_runs rfl (ex_store1m h _ _ _ rfl _ _ rfl _ rfl) ?_; clear h; rintro _ w ⟨rfl, h⟩; try dsimp only [Act.put]) | (refine wl_runs rfl (ex_store h _ _ _ rfl _ _ rfl _ rfl) ?_; clear h; rintro _ w ⟨rfl, h⟩; try dsimp only [Act.put]) | (refine wl_runs rfl (ex_alloc h _ rfl) ?_; clear h; rintro _ w ⟨g, rfl, h⟩) | (refine wl_runs rfl (ex_box h _ _ rfl _ rfl) ?_; clear h; rintro _ w ⟨g, rfl, h⟩) | (refine wl_runs rfl (ex_box1i h _ _ rfl _ _ rfl) ?_; clear h; rintro _ w ⟨g, rfl, h⟩) | (refine wl_runs rfl (ex_box1s h _ _ rfl _ _ _ rfl) ?_; clear h; rintro _ w ⟨g, rfl, h⟩) | (refine wl_runs rfl (ex_box1b h _ _ rfl _ rfl) ?_; clear h; rintro _ w ⟨g, rfl, h⟩) | (refine wl_runs rfl (ex_box1t h _ _ rfl _ rfl) ?_; clear h; rintro _ w ⟨g, rfl, h⟩) | (refine wl_runs rfl (ex_box1p h _ _ rfl _ rfl) ?_; clear h; rintro _ w ⟨g, rfl, h⟩) | (refine wl_runs rfl (ex_box1m h _ _ rfl _ rfl) ?_; clear h; rintro _ w ⟨g, rfl, h⟩) | (refine wl_runs rfl (ex_slice1 h _ _ rfl _ rfl) ?_; clear h; rintro _ w ⟨g, rfl, h⟩) | (refine wl_runs rfl (ex_slice1i h _ _ rfl _ _ rfl) ?_; clear h; rintro _ w ⟨g, rfl, h⟩) | (refine wl_runs rfl (ex_slice1s h _ _ rfl _ _ _ rfl) ?_; clear h; rintro _ w ⟨g, rfl, h⟩) | (refine wl_runs rfl (ex_slice1b h _ _ rfl _ rfl) ?_; clear h; rintro _ w ⟨g, rfl, h⟩) | (refine wl_runs rfl (ex_slice1t h _ _ rfl _ rfl) ?_; clear h; rintro _ w ⟨g, rfl, h⟩) | (refine wl_runs rfl (ex_slice1p h _ _ rfl _ rfl) ?_; clear h; rintro _ w ⟨g, rfl, h⟩) | (refine wl_runs rfl (ex_slice1m h _ _ rfl _ rfl) ?_; clear h; rintro _ w ⟨g, rfl, h⟩) | (refine wl_reads rfl (ex_lit0 _ rfl) ?_))
    go_ret
    exact ⟨rfl, h.step.below⟩
  · go_enter Try.func6, Try.ntmps6
    go_wp2_with (first
      | (go_at_call 23; refine (envel_awake _).mono ?_; rintro r w ⟨rfl, hs⟩; replace h := h.quiet hs; clear hs)
      | (refine wl_reads rfl (ex_loadv h _ _ rfl _ _ rfl) ?_) | (refine wl_runs rfl (ex_store1i h _ _ _ rfl _ _ rfl _ _ rfl) ?_; clear h; rintro _ w ⟨rfl, h⟩; try dsimp only [Act.put]) | (refine wl_runs rfl (ex_store1s h _ _ _ rfl _ _ rfl _ _ _ rfl) ?_; clear h; rintro _ w ⟨rfl, h⟩; try dsimp only [Act.put]) | (refine wl_runs rfl (ex_store1b h _ _ _ rfl _ _ rfl _ rfl) ?_; clear h; rintro _ w ⟨rfl, h⟩; try dsimp only [Act.put]) | (refine wl_runs rfl (ex_store1t h _ _ _ rfl _ _ rfl _ rfl) ?_; clear h; rintro _ w ⟨rfl, h⟩; try dsimp only [Act.put]) | (refine wl_runs rfl (ex_store1p h _ _ _ rfl _ _ rfl _ rfl) ?_; clear h; rintro _ w ⟨rfl, h⟩; try dsimp only [Act.put]) | (refine wl_runs rfl (ex_store1m h _ _ _ rfl _ _ rfl _ rfl) ?_; clear h; rintro _ w ⟨rfl, h⟩; try dsimp only [Act.put]) | (refine wl_runs rfl (ex_store h _ _ _ rfl _ _ rfl _ rfl) ?_; clear h; rintro _ w ⟨rfl, h⟩; try dsimp only [Act.put]) | (refine wl_runs rfl (ex_alloc h _ rfl) ?_; clear h; rintro _ w ⟨g, rfl, h⟩) | (refine wl_runs rfl (ex_box h _ _ rfl _ rfl) ?_; clear h; rintro _ w ⟨g, rfl, h⟩) | (refine wl_runs rfl (ex_box1i h _ _ rfl _ _ rfl) ?_; clear h; rintro _ w ⟨g, rfl, h⟩) | (refine wl_runs rfl (ex_box1s h _ _ rfl _ _ _ rfl) ?_; clear h; rintro _ w ⟨g, rfl, h⟩) | (refine wl_runs rfl (ex_box1b h _ _ rfl _ rfl) ?_; clear h; rintro _ w ⟨g, rfl, h⟩) | (refine wl_runs rfl (ex_box1t h _ _ rfl _ rfl) ?_; clear h; rintro _ w ⟨g, rfl, h⟩) | (refine wl_runs rfl (ex_box1p h _ _ rfl _ rfl) ?_; clear h; rintro _ w ⟨g, rfl, h⟩) | (refine wl_runs rfl (ex_box1m h _ _ rfl _ rfl) ?_; clear h; rintro _ w ⟨g, rfl, h⟩) | (refine wl_runs rfl (ex_slice1 h _ _ rfl _ rfl) ?_; clear h; rintro _ w ⟨g, rfl, h⟩) | (refine wl_runs rfl (ex_slice1i h _ _ rfl _ _ rfl) ?_; clear h; rintro _ w ⟨g, rfl, h⟩) | (refine wl_runs rfl (ex_slice1s h _ _ rfl _ _ _ rfl) ?_; clear h; rintro _ w ⟨g, rfl, h⟩) | (refine wl_runs rfl (ex_slice1b h _ _ rfl _ rfl) ?_; clear h; rintro _ w ⟨g, rfl, h⟩) | (refine wl_runs rfl (ex_slice1t h _ _ rfl _ rfl) ?_; clear h; rintro _ w ⟨g, rfl, h⟩) | (refine wl_runs rfl (ex_slice1p h _ _ rfl _ rfl) ?_; clear h; rintro _ w ⟨g, rfl, h⟩) | (refine wl_runs rfl (ex_slice1m h _ _ rfl _ rfl) ?_; clear h; rintro _ w ⟨g, rfl, h⟩) | (refine wl_reads rfl (ex_lit0 _ rfl) ?_))
    go_ret
    exact ⟨rfl, h.step.below⟩
end Go.Proofs.Ytjnaiicgincndaa
