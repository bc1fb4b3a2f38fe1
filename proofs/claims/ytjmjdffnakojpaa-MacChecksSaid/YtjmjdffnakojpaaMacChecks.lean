/- Whether a tag is the right one: the call against the reference's. -/
import Derived.Test.YtjmjdffnakojpaaCheck
import Derived.Test.YtjmjdffnakojpaaAwake03
namespace Go.Proofs.Ytjmjdffnakojpaa
open Go.RowKit
set_option linter.unusedVariables false
set_option linter.unusedSimpArgs false

theorem str_same (a b : List UInt8) : ((str a).toList == (str b).toList) = decide (b = a) := by
  rw [str_toList, str_toList]
  by_cases hab : b = a
  · rw [decide_eq_true hab, hab]
    simp
  · rw [decide_eq_false hab]
    exact beq_eq_false_iff_ne.2 (Ne.symm hab)

set_option maxRecDepth 100000 in
set_option maxHeartbeats 1000000 in
theorem walk_MacChecks {w0 : World} {key text tag : List UInt8} {A B C : Option Addr} {n c m d q e : Nat} (hk : Sl w0 A n c 1 (u8s key)) (ht : Sl w0 B m d 1 (u8s text)) (hg : Sl w0 C q e 1 (u8s tag)) :
    Calls Try.prog 9 #[.slice A n c, .slice B m d, .slice C q e] w0 fun e w' => e = .returned (.bool true) ∧ Below w0.heap.size w0 w' := by
  have h := ((St.read0 hg (by omega)).reading ht (by omega) (fun k hk2 => ⟨ht.ft_lt (by omega) hk2, id⟩)).reading hk (by omega) (fun k hk2 => ⟨hk.ft_lt (by omega) hk2, id⟩)
  have hml := macM_length key text
  obtain ⟨M, hM⟩ : ∃ M, macM key text = M := ⟨_, rfl⟩
  rw [hM] at hml
  have HM := Lib.hid hM
  have hrow : Row (u8s M) 32 := Row.mk' (by rw [u8s_length, hml]) (u8s_one _) (by omega)
  clear hM hml hk ht hg
  by_cases hn : n ≤ 300
  · have hd : decide ((300 : Int) < (n : Int)) = false := by simp; omega
    by_cases hm : m ≤ 300
    · have hd2 : decide ((300 : Int) < (m : Int)) = false := by simp; omega
      by_cases hq : q ≤ 300
      · have hd3 : decide ((300 : Int) < (q : Int)) = false := by simp; omega
        have hs := str_same tag M
        obtain ⟨D, hD⟩ : ∃ D, decide (M = tag) = D := ⟨_, rfl⟩
        rw [hD] at hs
        have HD := Lib.hid hD
        clear hD
        go_enter Try.func9, Try.ntmps9
        go_wp2_with (first
          | (go_at_call 24; refine (mac_awake h).mono ?_; clear h; rintro e w ⟨rfl, h⟩)
          | (go_at_call 26; refine (mac_ref h (by omega) (by omega)).mono ?_; rw [HM.out]; clear h; rintro e w ⟨rfl, h⟩)
          | (refine wl_reads rfl (ex_load1 h _ _ rfl _ _ rfl) ?_) | (refine wl_reads rfl (ex_load h _ _ rfl _ _ rfl) ?_) | (refine wl_runs rfl (ex_store1i h _ _ _ rfl _ _ rfl _ _ rfl) ?_; clear h; rintro _ w ⟨rfl, h⟩; try dsimp only [Act.put]) | (refine wl_runs rfl (ex_store1s h _ _ _ rfl _ _ rfl _ _ _ rfl) ?_; clear h; rintro _ w ⟨rfl, h⟩; try dsimp only [Act.put]) | (refine wl_runs rfl (ex_store1b h _ _ _ rfl _ _ rfl _ rfl) ?_; clear h; rintro _ w ⟨rfl, h⟩; try dsimp only [Act.put]) | (refine wl_runs rfl (ex_store1t h _ _ _ rfl _ _ rfl _ rfl) ?_; clear h; rintro _ w ⟨rfl, h⟩; try dsimp only [Act.put]) | (refine wl_runs rfl (ex_store1p h _ _ _ rfl _ _ rfl _ rfl) ?_; clear h; rintro _ w ⟨rfl, h⟩; try dsimp only [Act.put]) | (refine wl_runs rfl (ex_store1m h _ _ _ rfl _ _ rfl _ rfl) ?_; clear h; rintro _ w ⟨rfl, h⟩; try dsimp only [Act.put]) | (refine wl_runs rfl (ex_store h _ _ _ rfl _ _ rfl _ rfl) ?_; clear h; rintro _ w ⟨rfl, h⟩; try dsimp only [Act.put]) | (refine wl_runs rfl (ex_alloc h _ rfl) ?_; clear h; rintro _ w ⟨g, rfl, h⟩) | (refine wl_runs rfl (ex_box h _ _ rfl _ rfl) ?_; clear h; rintro _ w ⟨g, rfl, h⟩) | (refine wl_runs rfl (ex_box1i h _ _ rfl _ _ rfl) ?_; clear h; rintro _ w ⟨g, rfl, h⟩) | (refine wl_runs rfl (ex_box1s h _ _ rfl _ _ _ rfl) ?_; clear h; rintro _ w ⟨g, rfl, h⟩) | (refine wl_runs rfl (ex_box1b h _ _ rfl _ rfl) ?_; clear h; rintro _ w ⟨g, rfl, h⟩) | (refine wl_runs rfl (ex_box1t h _ _ rfl _ rfl) ?_; clear h; rintro _ w ⟨g, rfl, h⟩) | (refine wl_runs rfl (ex_box1p h _ _ rfl _ rfl) ?_; clear h; rintro _ w ⟨g, rfl, h⟩) | (refine wl_runs rfl (ex_box1m h _ _ rfl _ rfl) ?_; clear h; rintro _ w ⟨g, rfl, h⟩) | (refine wl_runs rfl (ex_slice1 h _ _ rfl _ rfl) ?_; clear h; rintro _ w ⟨g, rfl, h⟩) | (refine wl_runs rfl (ex_slice1i h _ _ rfl _ _ rfl) ?_; clear h; rintro _ w ⟨g, rfl, h⟩) | (refine wl_runs rfl (ex_slice1s h _ _ rfl _ _ _ rfl) ?_; clear h; rintro _ w ⟨g, rfl, h⟩) | (refine wl_runs rfl (ex_slice1b h _ _ rfl _ rfl) ?_; clear h; rintro _ w ⟨g, rfl, h⟩) | (refine wl_runs rfl (ex_slice1t h _ _ rfl _ rfl) ?_; clear h; rintro _ w ⟨g, rfl, h⟩) | (refine wl_runs rfl (ex_slice1p h _ _ rfl _ rfl) ?_; clear h; rintro _ w ⟨g, rfl, h⟩) | (refine wl_runs rfl (ex_slice1m h _ _ rfl _ rfl) ?_; clear h; rintro _ w ⟨g, rfl, h⟩) | (refine wl_reads rfl (ex_lit0 _ rfl) ?_))
        refine wp_region_K 17 (fun w' => St _ _ w' _) (by kernel_rfl) h.drew ?_; replace h := h.drew
        refine wpAnyK_pure 26 (v := ?_) (i := 0) (fuel := 16) rfl rfl (by kernel_rfl) (by kernel_rfl) (by kernel_rfl) (by decide) (fun _ _ _ h => h) (Or.inl ⟨by rfl, fun w _ => ?_⟩) ?_; rotate_left; (go_simp; with_reducible rfl); simp only [Act.put, List.setIfInBounds_toArray, List.set_cons_zero, List.set_cons_succ]
        refine wpAnyK_pure 27 (v := ?_) (i := 1) (fuel := 15) rfl rfl (by kernel_rfl) (by kernel_rfl) (by kernel_rfl) (by decide) (fun _ _ _ h => h) (Or.inl ⟨by rfl, fun w _ => ?_⟩) ?_; rotate_left; (go_simp; with_reducible rfl); simp only [Act.put, List.setIfInBounds_toArray, List.set_cons_zero, List.set_cons_succ]
        refine wpAnyK_pure 28 (v := ?_) (i := 2) (fuel := 14) rfl rfl (by kernel_rfl) (by kernel_rfl) (by kernel_rfl) (by decide) (fun _ _ _ h => h) (Or.inl ⟨by rfl, fun w _ => ?_⟩) ?_; rotate_left; (go_simp; with_reducible rfl); simp only [Act.put, List.setIfInBounds_toArray, List.set_cons_zero, List.set_cons_succ]
        refine wpAnyK_one (i := 3) (fuel := 13) rfl (by kernel_rfl) rfl (fun K hK => ?_)
        (go_simp; go_wp2_with (go_at_call 28; refine (check_code h (by omega) (by omega)).mono ?_; rw [HM.out]; clear h; rintro e w ⟨rfl, h⟩)); refine hK.out _ _ (fun _ => h.to) ?_; clear hK K
        try simp only [Act.put, List.setIfInBounds_toArray, List.set_cons_zero, List.set_cons_succ]
        refine wpAnyK_pure 30 (v := ?_) (i := 4) (fuel := 12) rfl rfl (by kernel_rfl) (by kernel_rfl) (by kernel_rfl) (by decide) (fun _ _ _ h => h) (Or.inl ⟨by rfl, fun w _ => ?_⟩) ?_; rotate_left; (go_simp; with_reducible rfl); simp only [Act.put, List.setIfInBounds_toArray, List.set_cons_zero, List.set_cons_succ]
        refine wpAnyK_pure 31 (v := ?_) (i := 5) (fuel := 11) rfl rfl (by kernel_rfl) (by kernel_rfl) (by kernel_rfl) (by decide) (fun _ _ _ h => h) (Or.inl ⟨by rfl, fun w _ => ?_⟩) ?_; rotate_left; (go_simp; with_reducible rfl); simp only [Act.put, List.setIfInBounds_toArray, List.set_cons_zero, List.set_cons_succ]
        refine wpAnyK_pure 32 (v := ?_) (i := 6) (fuel := 10) rfl rfl (by kernel_rfl) (by kernel_rfl) (by kernel_rfl) (by decide) (fun _ _ _ h => h) (Or.inl ⟨by rfl, fun w _ => ?_⟩) ?_; rotate_left; (go_simp; with_reducible rfl); simp only [Act.put, List.setIfInBounds_toArray, List.set_cons_zero, List.set_cons_succ]
        refine wpAnyK_pure 33 (v := ?_) (i := 7) (fuel := 9) rfl rfl (by kernel_rfl) (by kernel_rfl) (by kernel_rfl) (by decide) (fun _ _ _ h => h) (Or.inl ⟨by rfl, fun w _ => ?_⟩) ?_; rotate_left; (go_simp; with_reducible rfl); simp only [Act.put, List.setIfInBounds_toArray, List.set_cons_zero, List.set_cons_succ]
        refine wpAnyK_pure 35 (v := ?_) (i := 9) (fuel := 8) rfl rfl (by kernel_rfl) (by kernel_rfl) (by kernel_rfl) (by decide) (fun _ _ _ h => h) (Or.inl ⟨by rfl, fun w _ => ?_⟩) ?_; rotate_left; (go_simp; with_reducible rfl); simp only [Act.put, List.setIfInBounds_toArray, List.set_cons_zero, List.set_cons_succ]
        refine wpAnyK_load 36 (i := 10) (fuel := 7) rfl rfl (by kernel_rfl) (by kernel_rfl) (by kernel_rfl) (.inr (by decide)) (by decide) (fun _ _ _ h => h) rfl (fun w h => ex_string _ _ _ rfl Try.underlying5 Try.underlying9 C q e rfl (h.sl C q e)) ?_; simp only [Act.put, List.setIfInBounds_toArray, List.set_cons_zero, List.set_cons_succ]
        refine wpAnyK_pure 37 (v := ?_) (i := 11) (fuel := 6) rfl rfl (by kernel_rfl) (by kernel_rfl) (by kernel_rfl) (by decide) (fun _ _ _ h => h) (Or.inl ⟨by rfl, fun w _ => ?_⟩) ?_; rotate_left; (go_simp; with_reducible rfl); simp only [Act.put, List.setIfInBounds_toArray, List.set_cons_zero, List.set_cons_succ]
        refine wpAnyK_load 38 (i := 12) (fuel := 5) rfl rfl (by kernel_rfl) (by kernel_rfl) (by kernel_rfl) (.inr (by decide)) (by decide) (fun _ _ _ h => h) rfl (fun w h => ex_string _ _ _ rfl Try.underlying5 Try.underlying9 (some ⟨g, 0, none⟩) 32 32 rfl (h.sl (some ⟨g, 0, none⟩) 32 32)) ?_; simp only [Act.put, List.setIfInBounds_toArray, List.set_cons_zero, List.set_cons_succ]
        refine wpAnyK_pure 39 (v := ?_) (i := 13) (fuel := 4) rfl rfl (by kernel_rfl) (by kernel_rfl) (by kernel_rfl) (by decide) (fun _ _ _ h => h) (Or.inl ⟨by rfl, fun w _ => ?_⟩) ?_; rotate_left; (go_simp; with_reducible rfl); simp only [Act.put, List.setIfInBounds_toArray, List.set_cons_zero, List.set_cons_succ]
        refine wpAnyK_one (i := 8) (fuel := 3) rfl (by kernel_rfl) rfl (fun K hK => ?_)
        (go_simp; go_wp2_with (go_at_call 28; refine (check_code h (by omega) (by omega)).mono ?_; rw [HM.out, HD.out]; clear h; rintro e w ⟨rfl, h⟩)); refine hK.out _ _ (fun _ => h.to) ?_; clear hK K
        try simp only [Act.put, List.setIfInBounds_toArray, List.set_cons_zero, List.set_cons_succ]
        refine wpAnyK_pure 40 (v := ?_) (i := 14) (fuel := 2) rfl rfl (by kernel_rfl) (by kernel_rfl) (by kernel_rfl) (by decide) (fun _ _ _ h => h) (Or.inl ⟨by rfl, fun w _ => ?_⟩) ?_; rotate_left; (go_simp; with_reducible rfl); simp only [Act.put, List.setIfInBounds_toArray, List.set_cons_zero, List.set_cons_succ]
        refine wpAnyK_pure 41 (v := ?_) (i := 15) (fuel := 1) rfl rfl (by kernel_rfl) (by kernel_rfl) (by kernel_rfl) (by decide) (fun _ _ _ h => h) (Or.inl ⟨by rfl, fun w _ => ?_⟩) ?_; rotate_left; (go_simp; with_reducible rfl); simp only [Act.put, List.setIfInBounds_toArray, List.set_cons_zero, List.set_cons_succ]
        refine wpAnyK_pure 6 (v := ?_) (i := 16) (fuel := 0) rfl rfl (by kernel_rfl) (by kernel_rfl) (by kernel_rfl) (by decide) (fun _ _ _ h => h) (Or.inl ⟨by rfl, fun w _ => ?_⟩) ?_; rotate_left; (go_simp; with_reducible rfl); simp only [Act.put, List.setIfInBounds_toArray, List.set_cons_zero, List.set_cons_succ]
        refine wpAnyK_done (by kernel_rfl) ?_
        go_wp2
        go_ret
        exact ⟨rfl, h.step.below⟩
      · have hd3 : decide ((300 : Int) < (q : Int)) = true := by simp; omega
        go_enter Try.func9, Try.ntmps9
        go_wp2_with (first
          | (go_at_call 24; refine (mac_awake h).mono ?_; clear h; rintro e w ⟨rfl, h⟩))
        go_ret
        exact ⟨rfl, h.step.below⟩
    · have hd2 : decide ((300 : Int) < (m : Int)) = true := by simp; omega
      go_enter Try.func9, Try.ntmps9
      go_wp2_with (first
        | (go_at_call 24; refine (mac_awake h).mono ?_; clear h; rintro e w ⟨rfl, h⟩))
      go_ret
      exact ⟨rfl, h.step.below⟩
  · have hd : decide ((300 : Int) < (n : Int)) = true := by simp; omega
    go_enter Try.func9, Try.ntmps9
    go_wp2_with (first
      | (go_at_call 24; refine (mac_awake h).mono ?_; clear h; rintro e w ⟨rfl, h⟩))
    go_ret
    exact ⟨rfl, h.step.below⟩
end Go.Proofs.Ytjmjdffnakojpaa
