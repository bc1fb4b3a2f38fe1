/- The law ShaRounds: the words of any block; any block taken into any words. -/
import Derived.Test.YtjmjdffnakojpaaAwake02
import Derived.Test.YtjmjdffnakojpaaComprRef
import Derived.Test.YtjmjdffnakojpaaOpen
namespace Go.Proofs.Ytjmjdffnakojpaa
set_option linter.unusedSimpArgs false
open Go.RowKit Go.ChangeShapes Go.WideShapes Go.Deep

theorem opens_words {w : World} {P : Program} {t e : TypeId} {n : Nat} (ht : P.underlying t = some (.array n e)) (he : P.underlying e = some (.int .u32)) (hc : P.cellsOf e = 1) (hn : P.cellsOf t = n * 1) : Opens P w t (fun cs => ∃ L : List UInt32, L.length = n ∧ cs = w32s L) :=
  (opens_array ht hc hn (opens_int he)).mono fun cs h => by
    obtain ⟨xss, hl, hx, rfl⟩ := h
    obtain ⟨m, rfl, _⟩ := list_choose (f := fun x : UInt32 => [w32 x]) (q := fun _ => True) xss (fun xs hxs => by
      obtain ⟨y, rfl, hy⟩ := hx xs hxs
      have hb := bounds_u32 hy
      refine ⟨UInt32.ofNat y.toNat, ?_, trivial⟩
      rw [w32, UInt32.toNat_ofNat', show y.toNat % 2 ^ 32 = y.toNat by omega, Int.toNat_of_nonneg hb.1])
    refine ⟨m, by simpa using hl, ?_⟩
    exact flatten_single w32 m

section
variable {H : Type} {enc : TypeId × Value → H} {w : World} {base : Nat} {spare : Nat → Bool} {held : Bool} {r : Reach} {b0 : Nat} {v : Value} {d : DataW H} {ps : List MemPlace}
set_option maxRecDepth 100000 in
theorem arg_words (hv : Value.okWide Try.prog w r b0 36 v) (h : DataW.Trod enc Try.prog w base spare held 36 v d ps) :
    ∃ L : List UInt32, v = .agg (w32s L).toArray ∧ L.length = 8 := by
  obtain ⟨cs, rfl, L, hl, rfl⟩ := arg_agg (.inr ⟨_, _, Try.underlying36⟩) (opens_words Try.underlying36 Try.underlying35 (by kernel_rfl) (by kernel_rfl)) hv h
  exact ⟨L, rfl, hl⟩
set_option maxRecDepth 100000 in
theorem arg_block (hv : Value.okWide Try.prog w r b0 33 v) (h : DataW.Trod enc Try.prog w base spare held 33 v d ps) :
    ∃ b : List UInt8, v = arr b ∧ b.length = 64 := by
  obtain ⟨cs, rfl, b, hl, rfl⟩ := arg_agg (.inr ⟨_, _, Try.underlying33⟩) (opens_bytes_array Try.underlying33 Try.underlying5 (by kernel_rfl) (by kernel_rfl)) hv h
  exact ⟨b, rfl, hl⟩
end

set_option maxRecDepth 100000 in
set_option maxHeartbeats 2000000 in
theorem walk_ShaRounds {w : World} {L : List UInt32} {b : List UInt8} (hl : L.length = 8) (hb : b.length = 64) :
    Calls Try.prog 5 #[.agg (w32s L).toArray, arr b] w fun r w' => r = .returned (.bool true) ∧ Below w.heap.size w w' := by
  have Hb := Lib.hid hb
  have HL := Lib.hid hl
  have hWl := schedAt_length b 64
  rw [schedM_def] at hWl
  have hVl := compM_length L b
  rw [hl] at hVl
  obtain ⟨W, hW⟩ : ∃ W, schedM b = W := ⟨_, rfl⟩
  obtain ⟨V, hV⟩ : ∃ V, compM L b = V := ⟨_, rfl⟩
  rw [hW] at hWl
  rw [hV] at hVl
  have HW := Lib.hid hW
  have HV := Lib.hid hV
  have e1 : ∀ W', (Op.equalIn 10000 37 (.agg (w32s W).toArray) (.agg (w32s W).toArray)).run Try.prog W' = .ok true W' := fun W' => run_equalIn_words W' 9998 _ _ 64 Try.underlying37 Try.underlying35 word_size W hWl
  have e2 : ∀ W', (Op.equalIn 10000 36 (.agg (w32s V).toArray) (.agg (w32s V).toArray)).run Try.prog W' = .ok true W' := fun W' => run_equalIn_words W' 9998 _ _ 8 Try.underlying36 Try.underlying35 word_size V hVl
  clear hb hl hWl hVl hW hV
  go_enter Try.func5, Try.ntmps5
  go_wp2_with (first
    | (refine wl_box rfl 36 (.tmp 0) rfl (.agg (w32s L).toArray) rfl ?_; intro w1 hb1 hS1 hw; clear hw)
    | (refine wl_box rfl 33 (.tmp 1) rfl (arr b) rfl ?_; intro w2 hb2 hS2 hw; clear hw)
    | (go_at_call 12; refine (sha_awake _).mono ?_; rintro r w3 ⟨rfl, hS3⟩))
  have hcL : Cells w3 w.heap.size 0 (w32s L) := ((hb1.step hS2 id).step hS3 id).cells
  have hcb : Cells w3 w1.heap.size 0 (u8s b) := (hb2.step hS3 id).cells
  refine wp_region_held_drew (S := fun w' => Step (fun _ => False) w3 w') (by kernel_rfl) ((Step.refl _ _).drew) fun hS => ?_
  refine any_take 7 (i := 0) (fuel := 14)  rfl rfl (by kernel_rfl) (by kernel_rfl) (by kernel_rfl) (fun _ _ _ h => h) (yieldsIf_load_mid rfl 33 _ rfl w1.heap.size 0 rfl (u8s b) _ (fun w' h => hcb.step h id) Try.underlying33 rfl (by rw [block_size3, u8s_length, Hb.out])) hS ?_
  simp only [Act.put, List.setIfInBounds_toArray, List.set_cons_zero, List.set_cons_succ]
  refine any_take 9 (i := 2) (fuel := 13)  rfl rfl (by kernel_rfl) (by kernel_rfl) (by kernel_rfl) (fun _ _ _ h => h) (yieldsIf_load_mid rfl 33 _ rfl w1.heap.size 0 rfl (u8s b) _ (fun w' h => hcb.step h id) Try.underlying33 rfl (by rw [block_size3, u8s_length, Hb.out])) hS ?_
  simp only [Act.put, List.setIfInBounds_toArray, List.set_cons_zero, List.set_cons_succ]
  refine wpAnyH_ready (rs := [1]) (fuel := 12) (by kernel_rfl) (by simp) ?_
  refine AllReadyH.cons rfl (fun K hK => ?_) AllReadyH.nil
  go_simp
  go_wp2_with (go_at_call 17; refine (sched_code Hb.out).mono ?_; rintro r w4 ⟨rfl, hS4⟩; rw [HW.out])
  refine hK.out _ _ ?_ (fun t4 => ?_)
  · exact hS.tr hS4
  clear hK K
  refine wpAnyH_ready (rs := [3]) (fuel := 11) (by kernel_rfl) (by simp) ?_
  refine AllReadyH.cons rfl (fun K hK => ?_) AllReadyH.nil
  go_simp
  go_wp2_with (go_at_call 18; refine (sched_ref Hb.out).mono ?_; rintro r w5 ⟨rfl, hS5⟩; rw [HW.out])
  refine hK.out _ _ ?_ (fun t5 => ?_)
  · exact t4.tr hS5
  clear hK K
  refine any_take 11 (i := 4) (fuel := 10) (v := .bool true) rfl rfl (by kernel_rfl) (by kernel_rfl) (by kernel_rfl) (fun _ _ _ h => h) (Or.inl ⟨by rfl, fun w _ => by go_simp⟩) t5 ?_
  simp only [Act.put, List.setIfInBounds_toArray, List.set_cons_zero, List.set_cons_succ]
  refine any_take 12 (i := 5) (fuel := 9) (v := .bool true) rfl rfl (by kernel_rfl) (by kernel_rfl) (by kernel_rfl) (fun _ _ _ h => h) (Or.inl ⟨by rfl, fun w _ => by go_simp⟩) t5 ?_
  simp only [Act.put, List.setIfInBounds_toArray, List.set_cons_zero, List.set_cons_succ]
  refine any_take 13 (i := 6) (fuel := 8)  rfl rfl (by kernel_rfl) (by kernel_rfl) (by kernel_rfl) (fun _ _ _ h => h) (yieldsIf_load_mid rfl 36 _ rfl w.heap.size 0 rfl (w32s L) _ (fun w' h => hcL.step h id) Try.underlying36 rfl (by rw [eight_size, w32s_length, HL.out])) t5 ?_
  simp only [Act.put, List.setIfInBounds_toArray, List.set_cons_zero, List.set_cons_succ]
  refine any_take 14 (i := 7) (fuel := 7)  rfl rfl (by kernel_rfl) (by kernel_rfl) (by kernel_rfl) (fun _ _ _ h => h) (yieldsIf_load_mid rfl 33 _ rfl w1.heap.size 0 rfl (u8s b) _ (fun w' h => hcb.step h id) Try.underlying33 rfl (by rw [block_size3, u8s_length, Hb.out])) t5 ?_
  simp only [Act.put, List.setIfInBounds_toArray, List.set_cons_zero, List.set_cons_succ]
  refine any_take 16 (i := 9) (fuel := 6)  rfl rfl (by kernel_rfl) (by kernel_rfl) (by kernel_rfl) (fun _ _ _ h => h) (yieldsIf_load_mid rfl 36 _ rfl w.heap.size 0 rfl (w32s L) _ (fun w' h => hcL.step h id) Try.underlying36 rfl (by rw [eight_size, w32s_length, HL.out])) t5 ?_
  simp only [Act.put, List.setIfInBounds_toArray, List.set_cons_zero, List.set_cons_succ]
  refine any_take 17 (i := 10) (fuel := 5)  rfl rfl (by kernel_rfl) (by kernel_rfl) (by kernel_rfl) (fun _ _ _ h => h) (yieldsIf_load_mid rfl 33 _ rfl w1.heap.size 0 rfl (u8s b) _ (fun w' h => hcb.step h id) Try.underlying33 rfl (by rw [block_size3, u8s_length, Hb.out])) t5 ?_
  simp only [Act.put, List.setIfInBounds_toArray, List.set_cons_zero, List.set_cons_succ]
  refine wpAnyH_ready (rs := [8]) (fuel := 4) (by kernel_rfl) (by simp) ?_
  refine AllReadyH.cons rfl (fun K hK => ?_) AllReadyH.nil
  go_simp
  go_wp2_with (go_at_call 19; refine (compr_code Hb.out HL.out).mono ?_; rintro r w6 ⟨rfl, hS6⟩; rw [HV.out])
  refine hK.out _ _ ?_ (fun t6 => ?_)
  · exact t5.tr hS6
  clear hK K
  refine wpAnyH_ready (rs := [11]) (fuel := 3) (by kernel_rfl) (by simp) ?_
  refine AllReadyH.cons rfl (fun K hK => ?_) AllReadyH.nil
  go_simp
  go_wp2_with (go_at_call 20; refine (compr_ref Hb.out HL.out).mono ?_; rintro r w7 ⟨rfl, hS7⟩; rw [HV.out])
  refine hK.out _ _ ?_ (fun t7 => ?_)
  · exact t6.tr hS7
  clear hK K
  refine any_take 19 (i := 12) (fuel := 2) (v := .bool true) rfl rfl (by kernel_rfl) (by kernel_rfl) (by kernel_rfl) (fun _ _ _ h => h) (Or.inl ⟨by rfl, fun w _ => by go_simp⟩) t7 ?_
  simp only [Act.put, List.setIfInBounds_toArray, List.set_cons_zero, List.set_cons_succ]
  refine any_take 20 (i := 13) (fuel := 1) (v := .bool true) rfl rfl (by kernel_rfl) (by kernel_rfl) (by kernel_rfl) (fun _ _ _ h => h) (Or.inl ⟨by rfl, fun w _ => by go_simp⟩) t7 ?_
  simp only [Act.put, List.setIfInBounds_toArray, List.set_cons_zero, List.set_cons_succ]
  refine any_take 4 (i := 14) (fuel := 0) (v := .bool true) rfl rfl (by kernel_rfl) (by kernel_rfl) (by kernel_rfl) (fun _ _ _ h => h) (Or.inl ⟨by rfl, fun w _ => by go_simp⟩) t7 ?_
  simp only [Act.put, List.setIfInBounds_toArray, List.set_cons_zero, List.set_cons_succ]
  refine wpAnyH_done (by kernel_rfl) ?_ 0
  go_wp2
  go_ret
  exact ⟨rfl, (((hS1.tr hS2).tr hS3).tr t7).below⟩
end Go.Proofs.Ytjmjdffnakojpaa
