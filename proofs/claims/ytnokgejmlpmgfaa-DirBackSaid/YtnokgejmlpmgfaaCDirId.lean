/- dir's reading of an id. -/
import Derived.Test.YtnokgejmlpmgfaaCDirPlain
import Derived.Test.YtnokgejmlpmgfaaCRdRaw32
import Derived.Test.YtnokgejmlpmgfaaCB2
namespace Go.Proofs.Ytnokgejmlpmgfaa
open Go.RowKit
set_option linter.unusedVariables false
set_option linter.unusedSimpArgs false

theorem wrap_u64d {n : Nat} (h : n < 2 ^ 64) : IntKind.u64.wrap (n : Int) = (n : Int) := by
  have e : IntKind.u64.wrap (n : Int) = ((n % 2 ^ 64 : Nat) : Int) := by simp [IntKind.wrap, IntKind.signed, IntKind.bits]
  rw [e, Nat.mod_eq_of_lt h]
theorem wrap_u32d {n : Nat} (h : n < 4294967296) : IntKind.u32.wrap (n : Int) = (n : Int) := by rw [IntKind.wrap_u32]; omega
set_option maxRecDepth 100000 in
set_option maxHeartbeats 1000000 in
theorem did_code {S : Nat → Prop} {w0 w : World} {L F : List Ent} {g : Nat} {R : Nat → Prop} {s : RS} (h : St S w0 w L) [k : SlotR L g 163 true R s F] :
    Calls Try.prog 83 #[.pointer (some ⟨g, 0, none⟩)] w fun e w' => e = .returned (.agg (u8s (idT s).1.1).toArray) ∧ St S w0 w' (eRd 163 true g R (idT s).2 :: F) := by
  obtain ⟨x, s', hi⟩ : ∃ x s', idT s = (x, s') := ⟨_, _, rfl⟩
  have Hi := Lib.hid hi
  rw [hi]
  clear hi
  have rx : Row (u8s x.1) 32 := Row.u32 x
  have h' := h.perm k.perm
  clear h
  have h := h'
  clear h'
  go_enter Try.func83, Try.ntmps83
  go_upto_region 2 with (first
    | (refine wl_at 2 rfl ?_; refine wl_runs rfl (ex_alloc h 85 rfl) ?_; clear h; rintro _ w ⟨gr, rfl, h⟩)
    | (refine wl_at 3 rfl ?_; refine wl_runs rfl (ex_alloc h 85 rfl) ?_; clear h; rintro _ w ⟨go, rfl, h⟩))
  refine wp_region_K 2 (fun w' => St _ _ w' _) (by kernel_rfl) h.drew ?_; replace h := h.drew
  refine wpAnyK_pure 4 (v := ?_) (i := 0) (fuel := 3) rfl rfl (by kernel_rfl) (by kernel_rfl) (by kernel_rfl) (by decide) (fun _ _ _ h => h) (Or.inl ⟨by rfl, fun w _ => ?_⟩) ?_; rotate_left; (go_simp; with_reducible rfl); simp only [Act.put, List.setIfInBounds_toArray, List.set_cons_zero, List.set_cons_succ]
  refine wpAnyK_pure 5 (v := ?_) (i := 1) (fuel := 2) rfl rfl (by kernel_rfl) (by kernel_rfl) (by kernel_rfl) (by decide) (fun _ _ _ h => h) (Or.inl ⟨by rfl, fun w _ => ?_⟩) ?_; rotate_left; (go_simp; with_reducible rfl); simp only [Act.put, List.setIfInBounds_toArray, List.set_cons_zero, List.set_cons_succ]
  refine wpAnyK_one (i := 2) (fuel := 1) rfl (by kernel_rfl) rfl (fun K hK => ?_)
  (go_simp; go_wp2_with (go_at_call 82; refine (rd_raw32 h Hi.out).mono ?_; clear h; rintro e w ⟨A2, m2, c2, ys2, rfl, hy2, h⟩)); refine hK.out _ _ (SJ.past (by kernel_rfl)) ?_; clear hK K
  try simp only [Act.put, List.setIfInBounds_toArray, List.set_cons_zero, List.set_cons_succ]
  refine wpAnyK_one (i := 3) (fuel := 0) rfl (by kernel_rfl) rfl (fun K hK => ?_)
  refine op_runs (some 7) rfl (ex_copy_id h _ _ _ _ rfl go 0 rfl x A2 m2 c2 rfl (h.sl A2 m2 c2) hy2) ?_; clear h; rintro _ w h; refine hK.out _ _ (SJ.past (by kernel_rfl)) ?_; clear hK K
  try simp only [Act.put, List.setIfInBounds_toArray, List.set_cons_zero, List.set_cons_succ]
  refine wpAnyK_done (by kernel_rfl) ?_
  go_wp2_with (first
    | (refine wl_reads rfl (ex_loadv h _ _ rfl _ _ rfl) ?_)
    | (refine wl_runs rfl (ex_store h _ _ _ rfl _ _ rfl (u8s x.1) rfl) ?_; clear h; rintro _ w ⟨rfl, h⟩; try dsimp only [Act.put]))
  refine bodyPost_ret (res_cell rfl rfl (h.loadVar 85 gr 0)) rfl ?_
  exact ⟨rfl, h.to⟩
end Go.Proofs.Ytnokgejmlpmgfaa
