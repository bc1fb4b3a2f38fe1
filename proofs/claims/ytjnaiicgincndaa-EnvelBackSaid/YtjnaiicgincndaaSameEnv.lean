/- An envelope is like itself. -/
import Derived.Test.YtjnaiicgincndaaEnvOf
namespace Go.Proofs.Ytjnaiicgincndaa
open Go.RowKit
set_option linter.unusedVariables false
set_option linter.unusedSimpArgs false

set_option maxRecDepth 100000 in
set_option maxHeartbeats 1000000 in
theorem same_env {w : World} {e : Env} {A B A2 B2 : Option Addr} {c d c2 d2 : Nat} (hl : Sl w A e.links.length c 32 (e.links.flatMap idc)) (hb : Sl w B e.body.length d 1 (u8s e.body)) (hl2 : Sl w A2 e.links.length c2 32 (e.links.flatMap idc)) (hb2 : Sl w B2 e.body.length d2 1 (u8s e.body)) (hn : e.links.length ≤ 1000000000) :
    Calls Try.prog 26 #[envV e A c B d, envV e A2 c2 B2 d2] w fun r w' => r = .returned (.bool true) ∧ Step (fun _ => False) w w' := by
  have h := (((St.read0 hl (by omega)).reading hb (by omega) (fun k hk => ⟨hb.ft_lt (by omega) hk, id⟩)).reading hl2 (by omega) (fun k hk => ⟨hl2.ft_lt (by omega) hk, id⟩)).reading hb2 (by omega) (fun k hk => ⟨hb2.ft_lt (by omega) hk, id⟩)
  obtain ⟨k, r, p, I, t⟩ := e
  simp only at hl hb hl2 hb2 hn h ⊢
  have hss := str_eq_self t
  have hdec : decide (I = I) = true := by simp
  have Hdec := Lib.hid hdec
  clear hl hb hl2 hb2 hdec
  go_enter Try.func26, Try.ntmps26
  go_wp2_with (first
    | (refine wl_runs rfl (ex_box h 48 _ rfl [_, _, _, _, _] rfl) ?_; clear h; rintro _ w ⟨g, rfl, h⟩)
    | (go_at_call 20; refine (same_ids (h.sl A I.length c) (h.sl A2 I.length c2) (by omega)).mono ?_; rw [Hdec.out]; rintro e w ⟨rfl, q, rfl⟩; replace h := h.quiet ((Step.refl _ _).drewN q))
    | (refine wl_reads rfl (ex_string _ _ _ rfl Try.underlying5 Try.underlying9 B t.length d rfl (h.sl B t.length d)) ?_)
    | (refine wl_reads rfl (ex_string _ _ _ rfl Try.underlying5 Try.underlying9 B2 t.length d2 rfl (h.sl B2 t.length d2)) ?_)
    | (refine wl_reads rfl (ex_loadv h _ _ rfl _ _ rfl) ?_) | (refine wl_runs rfl (ex_store1i h _ _ _ rfl _ _ rfl _ _ rfl) ?_; clear h; rintro _ w ⟨rfl, h⟩; try dsimp only [Act.put]) | (refine wl_runs rfl (ex_store1s h _ _ _ rfl _ _ rfl _ _ _ rfl) ?_; clear h; rintro _ w ⟨rfl, h⟩; try dsimp only [Act.put]) | (refine wl_runs rfl (ex_store1b h _ _ _ rfl _ _ rfl _ rfl) ?_; clear h; rintro _ w ⟨rfl, h⟩; try dsimp only [Act.put]) | (refine wl_runs rfl (ex_store1t h _ _ _ rfl _ _ rfl _ rfl) ?_; clear h; rintro _ w ⟨rfl, h⟩; try dsimp only [Act.put]) | (refine wl_runs rfl (ex_store1p h _ _ _ rfl _ _ rfl _ rfl) ?_; clear h; rintro _ w ⟨rfl, h⟩; try dsimp only [Act.put]) | (refine wl_runs rfl (ex_store1m h _ _ _ rfl _ _ rfl _ rfl) ?_; clear h; rintro _ w ⟨rfl, h⟩; try dsimp only [Act.put]) | (refine wl_runs rfl (ex_store h _ _ _ rfl _ _ rfl _ rfl) ?_; clear h; rintro _ w ⟨rfl, h⟩; try dsimp only [Act.put]) | (refine wl_runs rfl (ex_alloc h _ rfl) ?_; clear h; rintro _ w ⟨g, rfl, h⟩) | (refine wl_runs rfl (ex_box h _ _ rfl _ rfl) ?_; clear h; rintro _ w ⟨g, rfl, h⟩) | (refine wl_runs rfl (ex_box1i h _ _ rfl _ _ rfl) ?_; clear h; rintro _ w ⟨g, rfl, h⟩) | (refine wl_runs rfl (ex_box1s h _ _ rfl _ _ _ rfl) ?_; clear h; rintro _ w ⟨g, rfl, h⟩) | (refine wl_runs rfl (ex_box1b h _ _ rfl _ rfl) ?_; clear h; rintro _ w ⟨g, rfl, h⟩) | (refine wl_runs rfl (ex_box1t h _ _ rfl _ rfl) ?_; clear h; rintro _ w ⟨g, rfl, h⟩) | (refine wl_runs rfl (ex_box1p h _ _ rfl _ rfl) ?_; clear h; rintro _ w ⟨g, rfl, h⟩) | (refine wl_runs rfl (ex_box1m h _ _ rfl _ rfl) ?_; clear h; rintro _ w ⟨g, rfl, h⟩) | (refine wl_runs rfl (ex_slice1 h _ _ rfl _ rfl) ?_; clear h; rintro _ w ⟨g, rfl, h⟩) | (refine wl_runs rfl (ex_slice1i h _ _ rfl _ _ rfl) ?_; clear h; rintro _ w ⟨g, rfl, h⟩) | (refine wl_runs rfl (ex_slice1s h _ _ rfl _ _ _ rfl) ?_; clear h; rintro _ w ⟨g, rfl, h⟩) | (refine wl_runs rfl (ex_slice1b h _ _ rfl _ rfl) ?_; clear h; rintro _ w ⟨g, rfl, h⟩) | (refine wl_runs rfl (ex_slice1t h _ _ rfl _ rfl) ?_; clear h; rintro _ w ⟨g, rfl, h⟩) | (refine wl_runs rfl (ex_slice1p h _ _ rfl _ rfl) ?_; clear h; rintro _ w ⟨g, rfl, h⟩) | (refine wl_runs rfl (ex_slice1m h _ _ rfl _ rfl) ?_; clear h; rintro _ w ⟨g, rfl, h⟩) | (refine wl_reads rfl (ex_lit0 _ rfl) ?_))
  go_ret
  exact ⟨rfl, h.step⟩
end Go.Proofs.Ytjnaiicgincndaa
