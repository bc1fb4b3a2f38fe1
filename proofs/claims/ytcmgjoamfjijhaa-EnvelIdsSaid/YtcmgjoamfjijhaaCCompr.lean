/- A block taken in: the code. -/
import Derived.Test.YtcmgjoamfjijhaaCComprM
namespace Go.Proofs.Ytcmgjoamfjijhaa
open Go.RowKit

theorem block_size : (Try.prog.info? 120).map (·.size) = some 64 := by kernel_rfl
/-- What stands behind 'w, k, s := Schedule(b), table(), h'. -/
def BeginsR (w : World) (b : List UInt8) (W L : List UInt32) (a : Act) (e : Exit) (a' : Act) (w' : World) : Prop :=
  e = .normal ∧ ∃ b5 b7 bt, a' = { tmps := [(15, arr b), (18, .agg (w32s L).toArray), (16, .agg (w32s W).toArray), (17, .pointer (some ⟨bt, 0, none⟩)), (5, .pointer (some ⟨b5, 0, none⟩)), (7, .pointer (some ⟨b7, 0, none⟩)), (6, .pointer (some ⟨bt, 0, none⟩))].foldl (fun (t : Array Value) (p : Nat × Value) => t.setIfInBounds p.1 p.2) a.tmps, defers := a.defers } ∧
    Blk w' b5 161 (w32s W).toArray ∧ Blk w' b7 131 (w32s L).toArray ∧ Blk w' bt 161 (w32s kT).toArray ∧ b7 ≠ b5 ∧ b7 ≠ bt ∧ w.heap.size ≤ b5 ∧ w.heap.size ≤ b7 ∧ w.heap.size ≤ bt ∧ Step (fun _ => False) w w'

set_option maxRecDepth 100000 in
set_option maxHeartbeats 9000000 in
theorem compr_code {w : World} {b : List UInt8} {L : List UInt32} (hb : b.length = 64) (hl : L.length = 8) :
    Calls Try.prog 74 #[.agg (w32s L).toArray, arr b] w fun e w' => e = .returned (.agg (w32s (compM L b)).toArray) ∧ Step (fun _ => False) w w' := by
  have hA := Lib.hid True.intro
  have Hb := Lib.hid hb
  have HL := Lib.hid hl
  clear hb hl
  go_enter Try.func74, Try.ntmps74
  go_wp2_with (first
    | (clear hA; refine wl_box rfl 131 (.tmp 0) rfl (.agg (w32s L).toArray) rfl ?_; intro w1 hb1 hS1 hw; clear hw)
    | (refine wl_box rfl 120 (.tmp 1) rfl (arr b) rfl ?_; intro w2 hb2 hS2 hw; clear hw)
    | (refine wl_alloc rfl 131 rfl _ eight_zero ?_; intro w3 hb3 hS3 hw; clear hw))
  have hz1 := hb1.lt
  have hz2 := hb2.lt
  have hz3 := hS3.size
  have hz4 := hS2.size
  have hW := schedAt_length b 64
  rw [schedM_def] at hW
  obtain ⟨W, hWe⟩ : ∃ W, schedM b = W := ⟨_, rfl⟩
  rw [hWe] at hW
  have HW := Lib.hid hW
  have HWe := Lib.hid hWe
  clear hW hWe
  have hc1 : Cells w3 w.heap.size 0 (w32s L) := ((hb1.step hS2 id).step hS3 id).cells
  have hc2 : Cells w3 w1.heap.size 0 (u8s b) := (hb2.step hS3 id).cells
  simp only [Act.put, List.setIfInBounds_toArray, List.set_cons_zero, List.set_cons_succ]
  go_step3
  apply wp_seq_k
  intro Kc hKc
  refine wp_mid (BeginsR w3 b W L) ?_ ?_
  · refine wp_region_held_drew (S := fun w' => Step (fun _ => False) w3 w') (by kernel_rfl) ((Step.refl _ _).drew) fun hS => ?_
    refine any_take 15 (i := 0) (fuel := 8) rfl rfl (by kernel_rfl) (by kernel_rfl) (by kernel_rfl) (fun _ _ _ h => by cases h.1) (yieldsIf_load_mid rfl 120 _ rfl w1.heap.size 0 rfl (u8s b) _ (fun w' h => hc2.step h id) Try.underlying120 rfl (by rw [block_size, u8s_length, Hb.out])) hS ?_
    refine any_take 18 (i := 3) (fuel := 7) rfl rfl (by kernel_rfl) (by kernel_rfl) (by kernel_rfl) (fun _ _ _ h => by cases h.1) (yieldsIf_load_mid rfl 131 _ rfl w.heap.size 0 rfl (w32s L) _ (fun w' h => hc1.step h id) Try.underlying131 rfl (by rw [eight_size, w32s_length, HL.out])) hS ?_
    obtain ⟨wd, hwd⟩ : ∃ w', w3.drew = w' := ⟨_, rfl⟩
    have sd : Step (fun _ => False) w3 wd := hwd ▸ (Step.refl _ _).drew
    have yd := sd.size
    rw [hwd]
    rw [hwd] at hS
    refine wpAnyH_ready (rs := [1, 4, 5]) (fuel := 6) (by kernel_rfl) (by simp) ?_
    refine (AllReadyH.cons rfl (fun K hK => ?_) (AllReadyH.cons rfl (fun K hK => ?_) (AllReadyH.cons rfl (fun K hK => ?_) AllReadyH.nil)))
    · go_simp
      go_wp2_with (go_at_call 96; refine (sched_code Hb.out).mono ?_; rintro e w4 ⟨rfl, s4⟩; rw [HWe.out])
      have y4 := s4.size
      refine hK.out _ _ (sd.tr s4) (fun t4 => ?_)
      clear hK K
      refine wpAnyH_ready (rs := [2, 4, 5]) (fuel := 5) (by kernel_rfl) (by simp) ?_
      refine (AllReadyH.cons rfl (fun K hK => ?_) (AllReadyH.cons rfl (fun K hK => ?_) (AllReadyH.cons rfl (fun K hK => ?_) AllReadyH.nil)))
      · go_simp
        go_wp2_with (go_at_call 97; refine table_code.mono ?_; rintro e w5 ⟨bt, rfl, ft5, gt5, s5⟩)
        have y5 := s5.size
        refine hK.out _ _ (t4.tr s5) (fun t5 => ?_)
        clear hK K
        have ht5 := ft5.lt
        refine wpAnyH_ready (rs := [4, 5]) (fuel := 4) (by kernel_rfl) (by simp) ?_
        refine (AllReadyH.cons rfl (fun K hK => ?_) (AllReadyH.cons rfl (fun K hK => ?_) AllReadyH.nil))
        · rw [if_pos (by rfl)]
          refine op_wp_value (op_alloc 161 rfl _ words_zero) ?_
          obtain ⟨w6, hw⟩ : ∃ w', w5.alloc (.cells (Value.agg (w32s (List.replicate 64 0)).toArray).cells 161) = w' := ⟨_, rfl⟩
          have f56 : Blk w6 w5.heap.size 161 (w32s (List.replicate 64 0)).toArray := by subst hw; exact Blk.new w5 _ _
          have s6 : Step (fun _ => False) w5 w6 := by subst hw; exact (Step.refl _ _).alloc _
          have z6 : Hid (w6.heap.size = w5.heap.size + 1) := Lib.hid (by subst hw; simp)
          rw [hw]
          have y6 := s6.size
          refine hK.out _ _ (t5.tr s6) (fun t6 => ?_)
          clear hK K hw
          have ft6 := ft5.step s6 id
          refine wpAnyH_ready (rs := [5]) (fuel := 3) (by kernel_rfl) (by simp) ?_
          refine (AllReadyH.cons rfl (fun K hK => ?_) AllReadyH.nil)
          · rw [if_pos (by rfl)]
            refine op_wp_value (op_alloc 131 rfl _ eight_zero) ?_
            obtain ⟨w7, hw⟩ : ∃ w', w6.alloc (.cells (Value.agg (w32s (List.replicate 8 0)).toArray).cells 131) = w' := ⟨_, rfl⟩
            have f77 : Blk w7 w6.heap.size 131 (w32s (List.replicate 8 0)).toArray := by subst hw; exact Blk.new w6 _ _
            have s7 : Step (fun _ => False) w6 w7 := by subst hw; exact (Step.refl _ _).alloc _
            have z7 : Hid (w7.heap.size = w6.heap.size + 1) := Lib.hid (by subst hw; simp)
            rw [hw]
            have y7 := s7.size
            refine hK.out _ _ (t6.tr s7) (fun t7 => ?_)
            clear hK K hw
            have ft7 := ft6.step s7 id
            have f57 := f56.step s7 id
            refine wpAnyH_all (rs := [6]) (fuel := 2) (by kernel_rfl) (by simp) ?_
            intro i hi
            obtain rfl : i = 6 := by simpa using hi
            refine wpOp_store rfl rfl 161 (.tmp 5) (.tmp 16) rfl w5.heap.size rfl (w32s W) rfl (by rw [words_size, w32s_length, HW.out]) (w32s_one _) 161 _ f57 (by rw [List.size_toArray, w32s_length, w32s_length, HW.out, List.length_replicate]) ?_
            intro w8 g5 s8
            have y8 := s8.size
            have g7 := f77.step s8 (by intro e; have q6 := z6.out; have q7 := z7.out; omega)
            have gt := ft7.step s8 (by intro e; have q6 := z6.out; have q7 := z7.out; omega)
            have t8 : Step (fun _ => False) w3 w8 := t7.trans s8 (fun i hi e => by have q6 := z6.out; have q7 := z7.out; omega)
            refine ⟨t8, ?_⟩
            refine any_take 6 (i := 7) (fuel := 1) (v := .pointer (some ⟨bt, 0, none⟩)) rfl rfl (by kernel_rfl) (by kernel_rfl) (by kernel_rfl) (fun _ _ _ h => by cases h.1) (Or.inl ⟨by rfl, fun w _ => by go_simp⟩) t8 ?_
            refine wpAnyH_all (rs := [8]) (fuel := 0) (by kernel_rfl) (by simp) ?_
            intro i hi
            obtain rfl : i = 8 := by simpa using hi
            refine wpOp_store rfl rfl 131 (.tmp 7) (.tmp 18) rfl w6.heap.size rfl (w32s L) rfl (by rw [eight_size, w32s_length, HL.out]) (w32s_one _) 131 _ g7 (by rw [List.size_toArray, w32s_length, w32s_length, HL.out, List.length_replicate]) ?_
            intro w9 g7 s9
            refine ⟨t8.trans s9 (fun i hi e => by have q6 := z6.out; have q7 := z7.out; omega), wpAnyH_done (by kernel_rfl) ?_ 0⟩
            refine ⟨rfl, w5.heap.size, w6.heap.size, bt, ?_, g5.step s9 (by intro e; have q6 := z6.out; have q7 := z7.out; omega), g7, gt.step s9 (by intro e; have q6 := z6.out; have q7 := z7.out; omega), by (have q6 := z6.out; have q7 := z7.out; omega), by (have q6 := z6.out; have q7 := z7.out; omega), by (have q6 := z6.out; have q7 := z7.out; omega), by (have q6 := z6.out; have q7 := z7.out; omega), by (have q6 := z6.out; have q7 := z7.out; omega), t8.trans s9 (fun i hi e => by have q6 := z6.out; have q7 := z7.out; omega)⟩
            kernel_rfl
        · rw [if_pos (by rfl)]
          refine op_wp_value (op_alloc 131 rfl _ eight_zero) ?_
          obtain ⟨w10, hw⟩ : ∃ w', w5.alloc (.cells (Value.agg (w32s (List.replicate 8 0)).toArray).cells 131) = w' := ⟨_, rfl⟩
          have f710 : Blk w10 w5.heap.size 131 (w32s (List.replicate 8 0)).toArray := by subst hw; exact Blk.new w5 _ _
          have s10 : Step (fun _ => False) w5 w10 := by subst hw; exact (Step.refl _ _).alloc _
          have z10 : Hid (w10.heap.size = w5.heap.size + 1) := Lib.hid (by subst hw; simp)
          rw [hw]
          have y10 := s10.size
          refine hK.out _ _ (t5.tr s10) (fun t10 => ?_)
          clear hK K hw
          have ft10 := ft5.step s10 id
          refine wpAnyH_ready (rs := [4]) (fuel := 3) (by kernel_rfl) (by simp) ?_
          refine (AllReadyH.cons rfl (fun K hK => ?_) AllReadyH.nil)
          · rw [if_pos (by rfl)]
            refine op_wp_value (op_alloc 161 rfl _ words_zero) ?_
            obtain ⟨w11, hw⟩ : ∃ w', w10.alloc (.cells (Value.agg (w32s (List.replicate 64 0)).toArray).cells 161) = w' := ⟨_, rfl⟩
            have f511 : Blk w11 w10.heap.size 161 (w32s (List.replicate 64 0)).toArray := by subst hw; exact Blk.new w10 _ _
            have s11 : Step (fun _ => False) w10 w11 := by subst hw; exact (Step.refl _ _).alloc _
            have z11 : Hid (w11.heap.size = w10.heap.size + 1) := Lib.hid (by subst hw; simp)
            rw [hw]
            have y11 := s11.size
            refine hK.out _ _ (t10.tr s11) (fun t11 => ?_)
            clear hK K hw
            have ft11 := ft10.step s11 id
            have f711 := f710.step s11 id
            refine wpAnyH_all (rs := [6]) (fuel := 2) (by kernel_rfl) (by simp) ?_
            intro i hi
            obtain rfl : i = 6 := by simpa using hi
            refine wpOp_store rfl rfl 161 (.tmp 5) (.tmp 16) rfl w10.heap.size rfl (w32s W) rfl (by rw [words_size, w32s_length, HW.out]) (w32s_one _) 161 _ f511 (by rw [List.size_toArray, w32s_length, w32s_length, HW.out, List.length_replicate]) ?_
            intro w12 g5 s12
            have y12 := s12.size
            have g7 := f711.step s12 (by intro e; have q10 := z10.out; have q11 := z11.out; omega)
            have gt := ft11.step s12 (by intro e; have q10 := z10.out; have q11 := z11.out; omega)
            have t12 : Step (fun _ => False) w3 w12 := t11.trans s12 (fun i hi e => by have q10 := z10.out; have q11 := z11.out; omega)
            refine ⟨t12, ?_⟩
            refine any_take 6 (i := 7) (fuel := 1) (v := .pointer (some ⟨bt, 0, none⟩)) rfl rfl (by kernel_rfl) (by kernel_rfl) (by kernel_rfl) (fun _ _ _ h => by cases h.1) (Or.inl ⟨by rfl, fun w _ => by go_simp⟩) t12 ?_
            refine wpAnyH_all (rs := [8]) (fuel := 0) (by kernel_rfl) (by simp) ?_
            intro i hi
            obtain rfl : i = 8 := by simpa using hi
            refine wpOp_store rfl rfl 131 (.tmp 7) (.tmp 18) rfl w5.heap.size rfl (w32s L) rfl (by rw [eight_size, w32s_length, HL.out]) (w32s_one _) 131 _ g7 (by rw [List.size_toArray, w32s_length, w32s_length, HL.out, List.length_replicate]) ?_
            intro w13 g7 s13
            refine ⟨t12.trans s13 (fun i hi e => by have q10 := z10.out; have q11 := z11.out; omega), wpAnyH_done (by kernel_rfl) ?_ 0⟩
            refine ⟨rfl, w10.heap.size, w5.heap.size, bt, ?_, g5.step s13 (by intro e; have q10 := z10.out; have q11 := z11.out; omega), g7, gt.step s13 (by intro e; have q10 := z10.out; have q11 := z11.out; omega), by (have q10 := z10.out; have q11 := z11.out; omega), by (have q10 := z10.out; have q11 := z11.out; omega), by (have q10 := z10.out; have q11 := z11.out; omega), by (have q10 := z10.out; have q11 := z11.out; omega), by (have q10 := z10.out; have q11 := z11.out; omega), t12.trans s13 (fun i hi e => by have q10 := z10.out; have q11 := z11.out; omega)⟩
            kernel_rfl
      · rw [if_pos (by rfl)]
        refine op_wp_value (op_alloc 161 rfl _ words_zero) ?_
        obtain ⟨w14, hw⟩ : ∃ w', w4.alloc (.cells (Value.agg (w32s (List.replicate 64 0)).toArray).cells 161) = w' := ⟨_, rfl⟩
        have f514 : Blk w14 w4.heap.size 161 (w32s (List.replicate 64 0)).toArray := by subst hw; exact Blk.new w4 _ _
        have s14 : Step (fun _ => False) w4 w14 := by subst hw; exact (Step.refl _ _).alloc _
        have z14 : Hid (w14.heap.size = w4.heap.size + 1) := Lib.hid (by subst hw; simp)
        rw [hw]
        have y14 := s14.size
        refine hK.out _ _ (t4.tr s14) (fun t14 => ?_)
        clear hK K hw
        refine wpAnyH_ready (rs := [2, 5]) (fuel := 4) (by kernel_rfl) (by simp) ?_
        refine (AllReadyH.cons rfl (fun K hK => ?_) (AllReadyH.cons rfl (fun K hK => ?_) AllReadyH.nil))
        · go_simp
          go_wp2_with (go_at_call 97; refine table_code.mono ?_; rintro e w15 ⟨bt, rfl, ft15, gt15, s15⟩)
          have y15 := s15.size
          refine hK.out _ _ (t14.tr s15) (fun t15 => ?_)
          clear hK K
          have f515 := f514.step s15 id
          have ht15 := ft15.lt
          refine wpAnyH_ready (rs := [5]) (fuel := 3) (by kernel_rfl) (by simp) ?_
          refine (AllReadyH.cons rfl (fun K hK => ?_) AllReadyH.nil)
          · rw [if_pos (by rfl)]
            refine op_wp_value (op_alloc 131 rfl _ eight_zero) ?_
            obtain ⟨w16, hw⟩ : ∃ w', w15.alloc (.cells (Value.agg (w32s (List.replicate 8 0)).toArray).cells 131) = w' := ⟨_, rfl⟩
            have f716 : Blk w16 w15.heap.size 131 (w32s (List.replicate 8 0)).toArray := by subst hw; exact Blk.new w15 _ _
            have s16 : Step (fun _ => False) w15 w16 := by subst hw; exact (Step.refl _ _).alloc _
            have z16 : Hid (w16.heap.size = w15.heap.size + 1) := Lib.hid (by subst hw; simp)
            rw [hw]
            have y16 := s16.size
            refine hK.out _ _ (t15.tr s16) (fun t16 => ?_)
            clear hK K hw
            have f516 := f515.step s16 id
            have ft16 := ft15.step s16 id
            refine wpAnyH_all (rs := [6]) (fuel := 2) (by kernel_rfl) (by simp) ?_
            intro i hi
            obtain rfl : i = 6 := by simpa using hi
            refine wpOp_store rfl rfl 161 (.tmp 5) (.tmp 16) rfl w4.heap.size rfl (w32s W) rfl (by rw [words_size, w32s_length, HW.out]) (w32s_one _) 161 _ f516 (by rw [List.size_toArray, w32s_length, w32s_length, HW.out, List.length_replicate]) ?_
            intro w17 g5 s17
            have y17 := s17.size
            have g7 := f716.step s17 (by intro e; have q14 := z14.out; have q16 := z16.out; omega)
            have gt := ft16.step s17 (by intro e; have q14 := z14.out; have q16 := z16.out; omega)
            have t17 : Step (fun _ => False) w3 w17 := t16.trans s17 (fun i hi e => by have q14 := z14.out; have q16 := z16.out; omega)
            refine ⟨t17, ?_⟩
            refine any_take 6 (i := 7) (fuel := 1) (v := .pointer (some ⟨bt, 0, none⟩)) rfl rfl (by kernel_rfl) (by kernel_rfl) (by kernel_rfl) (fun _ _ _ h => by cases h.1) (Or.inl ⟨by rfl, fun w _ => by go_simp⟩) t17 ?_
            refine wpAnyH_all (rs := [8]) (fuel := 0) (by kernel_rfl) (by simp) ?_
            intro i hi
            obtain rfl : i = 8 := by simpa using hi
            refine wpOp_store rfl rfl 131 (.tmp 7) (.tmp 18) rfl w15.heap.size rfl (w32s L) rfl (by rw [eight_size, w32s_length, HL.out]) (w32s_one _) 131 _ g7 (by rw [List.size_toArray, w32s_length, w32s_length, HL.out, List.length_replicate]) ?_
            intro w18 g7 s18
            refine ⟨t17.trans s18 (fun i hi e => by have q14 := z14.out; have q16 := z16.out; omega), wpAnyH_done (by kernel_rfl) ?_ 0⟩
            refine ⟨rfl, w4.heap.size, w15.heap.size, bt, ?_, g5.step s18 (by intro e; have q14 := z14.out; have q16 := z16.out; omega), g7, gt.step s18 (by intro e; have q14 := z14.out; have q16 := z16.out; omega), by (have q14 := z14.out; have q16 := z16.out; omega), by (have q14 := z14.out; have q16 := z16.out; omega), by (have q14 := z14.out; have q16 := z16.out; omega), by (have q14 := z14.out; have q16 := z16.out; omega), by (have q14 := z14.out; have q16 := z16.out; omega), t17.trans s18 (fun i hi e => by have q14 := z14.out; have q16 := z16.out; omega)⟩
            kernel_rfl
        · rw [if_pos (by rfl)]
          refine op_wp_value (op_alloc 131 rfl _ eight_zero) ?_
          obtain ⟨w19, hw⟩ : ∃ w', w14.alloc (.cells (Value.agg (w32s (List.replicate 8 0)).toArray).cells 131) = w' := ⟨_, rfl⟩
          have f719 : Blk w19 w14.heap.size 131 (w32s (List.replicate 8 0)).toArray := by subst hw; exact Blk.new w14 _ _
          have s19 : Step (fun _ => False) w14 w19 := by subst hw; exact (Step.refl _ _).alloc _
          have z19 : Hid (w19.heap.size = w14.heap.size + 1) := Lib.hid (by subst hw; simp)
          rw [hw]
          have y19 := s19.size
          refine hK.out _ _ (t14.tr s19) (fun t19 => ?_)
          clear hK K hw
          have f519 := f514.step s19 id
          refine wpAnyH_ready (rs := [2]) (fuel := 3) (by kernel_rfl) (by simp) ?_
          refine (AllReadyH.cons rfl (fun K hK => ?_) AllReadyH.nil)
          · go_simp
            go_wp2_with (go_at_call 97; refine table_code.mono ?_; rintro e w20 ⟨bt, rfl, ft20, gt20, s20⟩)
            have y20 := s20.size
            refine hK.out _ _ (t19.tr s20) (fun t20 => ?_)
            clear hK K
            have f520 := f519.step s20 id
            have f720 := f719.step s20 id
            have ht20 := ft20.lt
            refine wpAnyH_all (rs := [6]) (fuel := 2) (by kernel_rfl) (by simp) ?_
            intro i hi
            obtain rfl : i = 6 := by simpa using hi
            refine wpOp_store rfl rfl 161 (.tmp 5) (.tmp 16) rfl w4.heap.size rfl (w32s W) rfl (by rw [words_size, w32s_length, HW.out]) (w32s_one _) 161 _ f520 (by rw [List.size_toArray, w32s_length, w32s_length, HW.out, List.length_replicate]) ?_
            intro w21 g5 s21
            have y21 := s21.size
            have g7 := f720.step s21 (by intro e; have q14 := z14.out; have q19 := z19.out; omega)
            have gt := ft20.step s21 (by intro e; have q14 := z14.out; have q19 := z19.out; omega)
            have t21 : Step (fun _ => False) w3 w21 := t20.trans s21 (fun i hi e => by have q14 := z14.out; have q19 := z19.out; omega)
            refine ⟨t21, ?_⟩
            refine any_take 6 (i := 7) (fuel := 1) (v := .pointer (some ⟨bt, 0, none⟩)) rfl rfl (by kernel_rfl) (by kernel_rfl) (by kernel_rfl) (fun _ _ _ h => by cases h.1) (Or.inl ⟨by rfl, fun w _ => by go_simp⟩) t21 ?_
            refine wpAnyH_all (rs := [8]) (fuel := 0) (by kernel_rfl) (by simp) ?_
            intro i hi
            obtain rfl : i = 8 := by simpa using hi
            refine wpOp_store rfl rfl 131 (.tmp 7) (.tmp 18) rfl w14.heap.size rfl (w32s L) rfl (by rw [eight_size, w32s_length, HL.out]) (w32s_one _) 131 _ g7 (by rw [List.size_toArray, w32s_length, w32s_length, HL.out, List.length_replicate]) ?_
            intro w22 g7 s22
            refine ⟨t21.trans s22 (fun i hi e => by have q14 := z14.out; have q19 := z19.out; omega), wpAnyH_done (by kernel_rfl) ?_ 0⟩
            refine ⟨rfl, w4.heap.size, w14.heap.size, bt, ?_, g5.step s22 (by intro e; have q14 := z14.out; have q19 := z19.out; omega), g7, gt.step s22 (by intro e; have q14 := z14.out; have q19 := z19.out; omega), by (have q14 := z14.out; have q19 := z19.out; omega), by (have q14 := z14.out; have q19 := z19.out; omega), by (have q14 := z14.out; have q19 := z19.out; omega), by (have q14 := z14.out; have q19 := z19.out; omega), by (have q14 := z14.out; have q19 := z19.out; omega), t21.trans s22 (fun i hi e => by have q14 := z14.out; have q19 := z19.out; omega)⟩
            kernel_rfl
      · rw [if_pos (by rfl)]
        refine op_wp_value (op_alloc 131 rfl _ eight_zero) ?_
        obtain ⟨w23, hw⟩ : ∃ w', w4.alloc (.cells (Value.agg (w32s (List.replicate 8 0)).toArray).cells 131) = w' := ⟨_, rfl⟩
        have f723 : Blk w23 w4.heap.size 131 (w32s (List.replicate 8 0)).toArray := by subst hw; exact Blk.new w4 _ _
        have s23 : Step (fun _ => False) w4 w23 := by subst hw; exact (Step.refl _ _).alloc _
        have z23 : Hid (w23.heap.size = w4.heap.size + 1) := Lib.hid (by subst hw; simp)
        rw [hw]
        have y23 := s23.size
        refine hK.out _ _ (t4.tr s23) (fun t23 => ?_)
        clear hK K hw
        refine wpAnyH_ready (rs := [2, 4]) (fuel := 4) (by kernel_rfl) (by simp) ?_
        refine (AllReadyH.cons rfl (fun K hK => ?_) (AllReadyH.cons rfl (fun K hK => ?_) AllReadyH.nil))
        · go_simp
          go_wp2_with (go_at_call 97; refine table_code.mono ?_; rintro e w24 ⟨bt, rfl, ft24, gt24, s24⟩)
          have y24 := s24.size
          refine hK.out _ _ (t23.tr s24) (fun t24 => ?_)
          clear hK K
          have f724 := f723.step s24 id
          have ht24 := ft24.lt
          refine wpAnyH_ready (rs := [4]) (fuel := 3) (by kernel_rfl) (by simp) ?_
          refine (AllReadyH.cons rfl (fun K hK => ?_) AllReadyH.nil)
          · rw [if_pos (by rfl)]
            refine op_wp_value (op_alloc 161 rfl _ words_zero) ?_
            obtain ⟨w25, hw⟩ : ∃ w', w24.alloc (.cells (Value.agg (w32s (List.replicate 64 0)).toArray).cells 161) = w' := ⟨_, rfl⟩
            have f525 : Blk w25 w24.heap.size 161 (w32s (List.replicate 64 0)).toArray := by subst hw; exact Blk.new w24 _ _
            have s25 : Step (fun _ => False) w24 w25 := by subst hw; exact (Step.refl _ _).alloc _
            have z25 : Hid (w25.heap.size = w24.heap.size + 1) := Lib.hid (by subst hw; simp)
            rw [hw]
            have y25 := s25.size
            refine hK.out _ _ (t24.tr s25) (fun t25 => ?_)
            clear hK K hw
            have f725 := f724.step s25 id
            have ft25 := ft24.step s25 id
            refine wpAnyH_all (rs := [6]) (fuel := 2) (by kernel_rfl) (by simp) ?_
            intro i hi
            obtain rfl : i = 6 := by simpa using hi
            refine wpOp_store rfl rfl 161 (.tmp 5) (.tmp 16) rfl w24.heap.size rfl (w32s W) rfl (by rw [words_size, w32s_length, HW.out]) (w32s_one _) 161 _ f525 (by rw [List.size_toArray, w32s_length, w32s_length, HW.out, List.length_replicate]) ?_
            intro w26 g5 s26
            have y26 := s26.size
            have g7 := f725.step s26 (by intro e; have q23 := z23.out; have q25 := z25.out; omega)
            have gt := ft25.step s26 (by intro e; have q23 := z23.out; have q25 := z25.out; omega)
            have t26 : Step (fun _ => False) w3 w26 := t25.trans s26 (fun i hi e => by have q23 := z23.out; have q25 := z25.out; omega)
            refine ⟨t26, ?_⟩
            refine any_take 6 (i := 7) (fuel := 1) (v := .pointer (some ⟨bt, 0, none⟩)) rfl rfl (by kernel_rfl) (by kernel_rfl) (by kernel_rfl) (fun _ _ _ h => by cases h.1) (Or.inl ⟨by rfl, fun w _ => by go_simp⟩) t26 ?_
            refine wpAnyH_all (rs := [8]) (fuel := 0) (by kernel_rfl) (by simp) ?_
            intro i hi
            obtain rfl : i = 8 := by simpa using hi
            refine wpOp_store rfl rfl 131 (.tmp 7) (.tmp 18) rfl w4.heap.size rfl (w32s L) rfl (by rw [eight_size, w32s_length, HL.out]) (w32s_one _) 131 _ g7 (by rw [List.size_toArray, w32s_length, w32s_length, HL.out, List.length_replicate]) ?_
            intro w27 g7 s27
            refine ⟨t26.trans s27 (fun i hi e => by have q23 := z23.out; have q25 := z25.out; omega), wpAnyH_done (by kernel_rfl) ?_ 0⟩
            refine ⟨rfl, w24.heap.size, w4.heap.size, bt, ?_, g5.step s27 (by intro e; have q23 := z23.out; have q25 := z25.out; omega), g7, gt.step s27 (by intro e; have q23 := z23.out; have q25 := z25.out; omega), by (have q23 := z23.out; have q25 := z25.out; omega), by (have q23 := z23.out; have q25 := z25.out; omega), by (have q23 := z23.out; have q25 := z25.out; omega), by (have q23 := z23.out; have q25 := z25.out; omega), by (have q23 := z23.out; have q25 := z25.out; omega), t26.trans s27 (fun i hi e => by have q23 := z23.out; have q25 := z25.out; omega)⟩
            kernel_rfl
        · rw [if_pos (by rfl)]
          refine op_wp_value (op_alloc 161 rfl _ words_zero) ?_
          obtain ⟨w28, hw⟩ : ∃ w', w23.alloc (.cells (Value.agg (w32s (List.replicate 64 0)).toArray).cells 161) = w' := ⟨_, rfl⟩
          have f528 : Blk w28 w23.heap.size 161 (w32s (List.replicate 64 0)).toArray := by subst hw; exact Blk.new w23 _ _
          have s28 : Step (fun _ => False) w23 w28 := by subst hw; exact (Step.refl _ _).alloc _
          have z28 : Hid (w28.heap.size = w23.heap.size + 1) := Lib.hid (by subst hw; simp)
          rw [hw]
          have y28 := s28.size
          refine hK.out _ _ (t23.tr s28) (fun t28 => ?_)
          clear hK K hw
          have f728 := f723.step s28 id
          refine wpAnyH_ready (rs := [2]) (fuel := 3) (by kernel_rfl) (by simp) ?_
          refine (AllReadyH.cons rfl (fun K hK => ?_) AllReadyH.nil)
          · go_simp
            go_wp2_with (go_at_call 97; refine table_code.mono ?_; rintro e w29 ⟨bt, rfl, ft29, gt29, s29⟩)
            have y29 := s29.size
            refine hK.out _ _ (t28.tr s29) (fun t29 => ?_)
            clear hK K
            have f729 := f728.step s29 id
            have f529 := f528.step s29 id
            have ht29 := ft29.lt
            refine wpAnyH_all (rs := [6]) (fuel := 2) (by kernel_rfl) (by simp) ?_
            intro i hi
            obtain rfl : i = 6 := by simpa using hi
            refine wpOp_store rfl rfl 161 (.tmp 5) (.tmp 16) rfl w23.heap.size rfl (w32s W) rfl (by rw [words_size, w32s_length, HW.out]) (w32s_one _) 161 _ f529 (by rw [List.size_toArray, w32s_length, w32s_length, HW.out, List.length_replicate]) ?_
            intro w30 g5 s30
            have y30 := s30.size
            have g7 := f729.step s30 (by intro e; have q23 := z23.out; have q28 := z28.out; omega)
            have gt := ft29.step s30 (by intro e; have q23 := z23.out; have q28 := z28.out; omega)
            have t30 : Step (fun _ => False) w3 w30 := t29.trans s30 (fun i hi e => by have q23 := z23.out; have q28 := z28.out; omega)
            refine ⟨t30, ?_⟩
            refine any_take 6 (i := 7) (fuel := 1) (v := .pointer (some ⟨bt, 0, none⟩)) rfl rfl (by kernel_rfl) (by kernel_rfl) (by kernel_rfl) (fun _ _ _ h => by cases h.1) (Or.inl ⟨by rfl, fun w _ => by go_simp⟩) t30 ?_
            refine wpAnyH_all (rs := [8]) (fuel := 0) (by kernel_rfl) (by simp) ?_
            intro i hi
            obtain rfl : i = 8 := by simpa using hi
            refine wpOp_store rfl rfl 131 (.tmp 7) (.tmp 18) rfl w4.heap.size rfl (w32s L) rfl (by rw [eight_size, w32s_length, HL.out]) (w32s_one _) 131 _ g7 (by rw [List.size_toArray, w32s_length, w32s_length, HL.out, List.length_replicate]) ?_
            intro w31 g7 s31
            refine ⟨t30.trans s31 (fun i hi e => by have q23 := z23.out; have q28 := z28.out; omega), wpAnyH_done (by kernel_rfl) ?_ 0⟩
            refine ⟨rfl, w23.heap.size, w4.heap.size, bt, ?_, g5.step s31 (by intro e; have q23 := z23.out; have q28 := z28.out; omega), g7, gt.step s31 (by intro e; have q23 := z23.out; have q28 := z28.out; omega), by (have q23 := z23.out; have q28 := z28.out; omega), by (have q23 := z23.out; have q28 := z28.out; omega), by (have q23 := z23.out; have q28 := z28.out; omega), by (have q23 := z23.out; have q28 := z28.out; omega), by (have q23 := z23.out; have q28 := z28.out; omega), t30.trans s31 (fun i hi e => by have q23 := z23.out; have q28 := z28.out; omega)⟩
            kernel_rfl
    · rw [if_pos (by rfl)]
      refine op_wp_value (op_alloc 161 rfl _ words_zero) ?_
      obtain ⟨w32, hw⟩ : ∃ w', wd.alloc (.cells (Value.agg (w32s (List.replicate 64 0)).toArray).cells 161) = w' := ⟨_, rfl⟩
      have f532 : Blk w32 wd.heap.size 161 (w32s (List.replicate 64 0)).toArray := by subst hw; exact Blk.new wd _ _
      have s32 : Step (fun _ => False) wd w32 := by subst hw; exact (Step.refl _ _).alloc _
      have z32 : Hid (w32.heap.size = wd.heap.size + 1) := Lib.hid (by subst hw; simp)
      rw [hw]
      have y32 := s32.size
      refine hK.out _ _ (sd.tr s32) (fun t32 => ?_)
      clear hK K hw
      refine wpAnyH_ready (rs := [1, 5]) (fuel := 5) (by kernel_rfl) (by simp) ?_
      refine (AllReadyH.cons rfl (fun K hK => ?_) (AllReadyH.cons rfl (fun K hK => ?_) AllReadyH.nil))
      · go_simp
        go_wp2_with (go_at_call 96; refine (sched_code Hb.out).mono ?_; rintro e w33 ⟨rfl, s33⟩; rw [HWe.out])
        have y33 := s33.size
        refine hK.out _ _ (t32.tr s33) (fun t33 => ?_)
        clear hK K
        have f533 := f532.step s33 id
        refine wpAnyH_ready (rs := [2, 5]) (fuel := 4) (by kernel_rfl) (by simp) ?_
        refine (AllReadyH.cons rfl (fun K hK => ?_) (AllReadyH.cons rfl (fun K hK => ?_) AllReadyH.nil))
        · go_simp
          go_wp2_with (go_at_call 97; refine table_code.mono ?_; rintro e w34 ⟨bt, rfl, ft34, gt34, s34⟩)
          have y34 := s34.size
          refine hK.out _ _ (t33.tr s34) (fun t34 => ?_)
          clear hK K
          have f534 := f533.step s34 id
          have ht34 := ft34.lt
          refine wpAnyH_ready (rs := [5]) (fuel := 3) (by kernel_rfl) (by simp) ?_
          refine (AllReadyH.cons rfl (fun K hK => ?_) AllReadyH.nil)
          · rw [if_pos (by rfl)]
            refine op_wp_value (op_alloc 131 rfl _ eight_zero) ?_
            obtain ⟨w35, hw⟩ : ∃ w', w34.alloc (.cells (Value.agg (w32s (List.replicate 8 0)).toArray).cells 131) = w' := ⟨_, rfl⟩
            have f735 : Blk w35 w34.heap.size 131 (w32s (List.replicate 8 0)).toArray := by subst hw; exact Blk.new w34 _ _
            have s35 : Step (fun _ => False) w34 w35 := by subst hw; exact (Step.refl _ _).alloc _
            have z35 : Hid (w35.heap.size = w34.heap.size + 1) := Lib.hid (by subst hw; simp)
            rw [hw]
            have y35 := s35.size
            refine hK.out _ _ (t34.tr s35) (fun t35 => ?_)
            clear hK K hw
            have f535 := f534.step s35 id
            have ft35 := ft34.step s35 id
            refine wpAnyH_all (rs := [6]) (fuel := 2) (by kernel_rfl) (by simp) ?_
            intro i hi
            obtain rfl : i = 6 := by simpa using hi
            refine wpOp_store rfl rfl 161 (.tmp 5) (.tmp 16) rfl wd.heap.size rfl (w32s W) rfl (by rw [words_size, w32s_length, HW.out]) (w32s_one _) 161 _ f535 (by rw [List.size_toArray, w32s_length, w32s_length, HW.out, List.length_replicate]) ?_
            intro w36 g5 s36
            have y36 := s36.size
            have g7 := f735.step s36 (by intro e; have q32 := z32.out; have q35 := z35.out; omega)
            have gt := ft35.step s36 (by intro e; have q32 := z32.out; have q35 := z35.out; omega)
            have t36 : Step (fun _ => False) w3 w36 := t35.trans s36 (fun i hi e => by have q32 := z32.out; have q35 := z35.out; omega)
            refine ⟨t36, ?_⟩
            refine any_take 6 (i := 7) (fuel := 1) (v := .pointer (some ⟨bt, 0, none⟩)) rfl rfl (by kernel_rfl) (by kernel_rfl) (by kernel_rfl) (fun _ _ _ h => by cases h.1) (Or.inl ⟨by rfl, fun w _ => by go_simp⟩) t36 ?_
            refine wpAnyH_all (rs := [8]) (fuel := 0) (by kernel_rfl) (by simp) ?_
            intro i hi
            obtain rfl : i = 8 := by simpa using hi
            refine wpOp_store rfl rfl 131 (.tmp 7) (.tmp 18) rfl w34.heap.size rfl (w32s L) rfl (by rw [eight_size, w32s_length, HL.out]) (w32s_one _) 131 _ g7 (by rw [List.size_toArray, w32s_length, w32s_length, HL.out, List.length_replicate]) ?_
            intro w37 g7 s37
            refine ⟨t36.trans s37 (fun i hi e => by have q32 := z32.out; have q35 := z35.out; omega), wpAnyH_done (by kernel_rfl) ?_ 0⟩
            refine ⟨rfl, wd.heap.size, w34.heap.size, bt, ?_, g5.step s37 (by intro e; have q32 := z32.out; have q35 := z35.out; omega), g7, gt.step s37 (by intro e; have q32 := z32.out; have q35 := z35.out; omega), by (have q32 := z32.out; have q35 := z35.out; omega), by (have q32 := z32.out; have q35 := z35.out; omega), by (have q32 := z32.out; have q35 := z35.out; omega), by (have q32 := z32.out; have q35 := z35.out; omega), by (have q32 := z32.out; have q35 := z35.out; omega), t36.trans s37 (fun i hi e => by have q32 := z32.out; have q35 := z35.out; omega)⟩
            kernel_rfl
        · rw [if_pos (by rfl)]
          refine op_wp_value (op_alloc 131 rfl _ eight_zero) ?_
          obtain ⟨w38, hw⟩ : ∃ w', w33.alloc (.cells (Value.agg (w32s (List.replicate 8 0)).toArray).cells 131) = w' := ⟨_, rfl⟩
          have f738 : Blk w38 w33.heap.size 131 (w32s (List.replicate 8 0)).toArray := by subst hw; exact Blk.new w33 _ _
          have s38 : Step (fun _ => False) w33 w38 := by subst hw; exact (Step.refl _ _).alloc _
          have z38 : Hid (w38.heap.size = w33.heap.size + 1) := Lib.hid (by subst hw; simp)
          rw [hw]
          have y38 := s38.size
          refine hK.out _ _ (t33.tr s38) (fun t38 => ?_)
          clear hK K hw
          have f538 := f533.step s38 id
          refine wpAnyH_ready (rs := [2]) (fuel := 3) (by kernel_rfl) (by simp) ?_
          refine (AllReadyH.cons rfl (fun K hK => ?_) AllReadyH.nil)
          · go_simp
            go_wp2_with (go_at_call 97; refine table_code.mono ?_; rintro e w39 ⟨bt, rfl, ft39, gt39, s39⟩)
            have y39 := s39.size
            refine hK.out _ _ (t38.tr s39) (fun t39 => ?_)
            clear hK K
            have f539 := f538.step s39 id
            have f739 := f738.step s39 id
            have ht39 := ft39.lt
            refine wpAnyH_all (rs := [6]) (fuel := 2) (by kernel_rfl) (by simp) ?_
            intro i hi
            obtain rfl : i = 6 := by simpa using hi
            refine wpOp_store rfl rfl 161 (.tmp 5) (.tmp 16) rfl wd.heap.size rfl (w32s W) rfl (by rw [words_size, w32s_length, HW.out]) (w32s_one _) 161 _ f539 (by rw [List.size_toArray, w32s_length, w32s_length, HW.out, List.length_replicate]) ?_
            intro w40 g5 s40
            have y40 := s40.size
            have g7 := f739.step s40 (by intro e; have q32 := z32.out; have q38 := z38.out; omega)
            have gt := ft39.step s40 (by intro e; have q32 := z32.out; have q38 := z38.out; omega)
            have t40 : Step (fun _ => False) w3 w40 := t39.trans s40 (fun i hi e => by have q32 := z32.out; have q38 := z38.out; omega)
            refine ⟨t40, ?_⟩
            refine any_take 6 (i := 7) (fuel := 1) (v := .pointer (some ⟨bt, 0, none⟩)) rfl rfl (by kernel_rfl) (by kernel_rfl) (by kernel_rfl) (fun _ _ _ h => by cases h.1) (Or.inl ⟨by rfl, fun w _ => by go_simp⟩) t40 ?_
            refine wpAnyH_all (rs := [8]) (fuel := 0) (by kernel_rfl) (by simp) ?_
            intro i hi
            obtain rfl : i = 8 := by simpa using hi
            refine wpOp_store rfl rfl 131 (.tmp 7) (.tmp 18) rfl w33.heap.size rfl (w32s L) rfl (by rw [eight_size, w32s_length, HL.out]) (w32s_one _) 131 _ g7 (by rw [List.size_toArray, w32s_length, w32s_length, HL.out, List.length_replicate]) ?_
            intro w41 g7 s41
            refine ⟨t40.trans s41 (fun i hi e => by have q32 := z32.out; have q38 := z38.out; omega), wpAnyH_done (by kernel_rfl) ?_ 0⟩
            refine ⟨rfl, wd.heap.size, w33.heap.size, bt, ?_, g5.step s41 (by intro e; have q32 := z32.out; have q38 := z38.out; omega), g7, gt.step s41 (by intro e; have q32 := z32.out; have q38 := z38.out; omega), by (have q32 := z32.out; have q38 := z38.out; omega), by (have q32 := z32.out; have q38 := z38.out; omega), by (have q32 := z32.out; have q38 := z38.out; omega), by (have q32 := z32.out; have q38 := z38.out; omega), by (have q32 := z32.out; have q38 := z38.out; omega), t40.trans s41 (fun i hi e => by have q32 := z32.out; have q38 := z38.out; omega)⟩
            kernel_rfl
      · rw [if_pos (by rfl)]
        refine op_wp_value (op_alloc 131 rfl _ eight_zero) ?_
        obtain ⟨w42, hw⟩ : ∃ w', w32.alloc (.cells (Value.agg (w32s (List.replicate 8 0)).toArray).cells 131) = w' := ⟨_, rfl⟩
        have f742 : Blk w42 w32.heap.size 131 (w32s (List.replicate 8 0)).toArray := by subst hw; exact Blk.new w32 _ _
        have s42 : Step (fun _ => False) w32 w42 := by subst hw; exact (Step.refl _ _).alloc _
        have z42 : Hid (w42.heap.size = w32.heap.size + 1) := Lib.hid (by subst hw; simp)
        rw [hw]
        have y42 := s42.size
        refine hK.out _ _ (t32.tr s42) (fun t42 => ?_)
        clear hK K hw
        have f542 := f532.step s42 id
        refine wpAnyH_ready (rs := [1]) (fuel := 4) (by kernel_rfl) (by simp) ?_
        refine (AllReadyH.cons rfl (fun K hK => ?_) AllReadyH.nil)
        · go_simp
          go_wp2_with (go_at_call 96; refine (sched_code Hb.out).mono ?_; rintro e w43 ⟨rfl, s43⟩; rw [HWe.out])
          have y43 := s43.size
          refine hK.out _ _ (t42.tr s43) (fun t43 => ?_)
          clear hK K
          have f543 := f542.step s43 id
          have f743 := f742.step s43 id
          refine wpAnyH_ready (rs := [2]) (fuel := 3) (by kernel_rfl) (by simp) ?_
          refine (AllReadyH.cons rfl (fun K hK => ?_) AllReadyH.nil)
          · go_simp
            go_wp2_with (go_at_call 97; refine table_code.mono ?_; rintro e w44 ⟨bt, rfl, ft44, gt44, s44⟩)
            have y44 := s44.size
            refine hK.out _ _ (t43.tr s44) (fun t44 => ?_)
            clear hK K
            have f544 := f543.step s44 id
            have f744 := f743.step s44 id
            have ht44 := ft44.lt
            refine wpAnyH_all (rs := [6]) (fuel := 2) (by kernel_rfl) (by simp) ?_
            intro i hi
            obtain rfl : i = 6 := by simpa using hi
            refine wpOp_store rfl rfl 161 (.tmp 5) (.tmp 16) rfl wd.heap.size rfl (w32s W) rfl (by rw [words_size, w32s_length, HW.out]) (w32s_one _) 161 _ f544 (by rw [List.size_toArray, w32s_length, w32s_length, HW.out, List.length_replicate]) ?_
            intro w45 g5 s45
            have y45 := s45.size
            have g7 := f744.step s45 (by intro e; have q32 := z32.out; have q42 := z42.out; omega)
            have gt := ft44.step s45 (by intro e; have q32 := z32.out; have q42 := z42.out; omega)
            have t45 : Step (fun _ => False) w3 w45 := t44.trans s45 (fun i hi e => by have q32 := z32.out; have q42 := z42.out; omega)
            refine ⟨t45, ?_⟩
            refine any_take 6 (i := 7) (fuel := 1) (v := .pointer (some ⟨bt, 0, none⟩)) rfl rfl (by kernel_rfl) (by kernel_rfl) (by kernel_rfl) (fun _ _ _ h => by cases h.1) (Or.inl ⟨by rfl, fun w _ => by go_simp⟩) t45 ?_
            refine wpAnyH_all (rs := [8]) (fuel := 0) (by kernel_rfl) (by simp) ?_
            intro i hi
            obtain rfl : i = 8 := by simpa using hi
            refine wpOp_store rfl rfl 131 (.tmp 7) (.tmp 18) rfl w32.heap.size rfl (w32s L) rfl (by rw [eight_size, w32s_length, HL.out]) (w32s_one _) 131 _ g7 (by rw [List.size_toArray, w32s_length, w32s_length, HL.out, List.length_replicate]) ?_
            intro w46 g7 s46
            refine ⟨t45.trans s46 (fun i hi e => by have q32 := z32.out; have q42 := z42.out; omega), wpAnyH_done (by kernel_rfl) ?_ 0⟩
            refine ⟨rfl, wd.heap.size, w32.heap.size, bt, ?_, g5.step s46 (by intro e; have q32 := z32.out; have q42 := z42.out; omega), g7, gt.step s46 (by intro e; have q32 := z32.out; have q42 := z42.out; omega), by (have q32 := z32.out; have q42 := z42.out; omega), by (have q32 := z32.out; have q42 := z42.out; omega), by (have q32 := z32.out; have q42 := z42.out; omega), by (have q32 := z32.out; have q42 := z42.out; omega), by (have q32 := z32.out; have q42 := z42.out; omega), t45.trans s46 (fun i hi e => by have q32 := z32.out; have q42 := z42.out; omega)⟩
            kernel_rfl
    · rw [if_pos (by rfl)]
      refine op_wp_value (op_alloc 131 rfl _ eight_zero) ?_
      obtain ⟨w47, hw⟩ : ∃ w', wd.alloc (.cells (Value.agg (w32s (List.replicate 8 0)).toArray).cells 131) = w' := ⟨_, rfl⟩
      have f747 : Blk w47 wd.heap.size 131 (w32s (List.replicate 8 0)).toArray := by subst hw; exact Blk.new wd _ _
      have s47 : Step (fun _ => False) wd w47 := by subst hw; exact (Step.refl _ _).alloc _
      have z47 : Hid (w47.heap.size = wd.heap.size + 1) := Lib.hid (by subst hw; simp)
      rw [hw]
      have y47 := s47.size
      refine hK.out _ _ (sd.tr s47) (fun t47 => ?_)
      clear hK K hw
      refine wpAnyH_ready (rs := [1, 4]) (fuel := 5) (by kernel_rfl) (by simp) ?_
      refine (AllReadyH.cons rfl (fun K hK => ?_) (AllReadyH.cons rfl (fun K hK => ?_) AllReadyH.nil))
      · go_simp
        go_wp2_with (go_at_call 96; refine (sched_code Hb.out).mono ?_; rintro e w48 ⟨rfl, s48⟩; rw [HWe.out])
        have y48 := s48.size
        refine hK.out _ _ (t47.tr s48) (fun t48 => ?_)
        clear hK K
        have f748 := f747.step s48 id
        refine wpAnyH_ready (rs := [2, 4]) (fuel := 4) (by kernel_rfl) (by simp) ?_
        refine (AllReadyH.cons rfl (fun K hK => ?_) (AllReadyH.cons rfl (fun K hK => ?_) AllReadyH.nil))
        · go_simp
          go_wp2_with (go_at_call 97; refine table_code.mono ?_; rintro e w49 ⟨bt, rfl, ft49, gt49, s49⟩)
          have y49 := s49.size
          refine hK.out _ _ (t48.tr s49) (fun t49 => ?_)
          clear hK K
          have f749 := f748.step s49 id
          have ht49 := ft49.lt
          refine wpAnyH_ready (rs := [4]) (fuel := 3) (by kernel_rfl) (by simp) ?_
          refine (AllReadyH.cons rfl (fun K hK => ?_) AllReadyH.nil)
          · rw [if_pos (by rfl)]
            refine op_wp_value (op_alloc 161 rfl _ words_zero) ?_
            obtain ⟨w50, hw⟩ : ∃ w', w49.alloc (.cells (Value.agg (w32s (List.replicate 64 0)).toArray).cells 161) = w' := ⟨_, rfl⟩
            have f550 : Blk w50 w49.heap.size 161 (w32s (List.replicate 64 0)).toArray := by subst hw; exact Blk.new w49 _ _
            have s50 : Step (fun _ => False) w49 w50 := by subst hw; exact (Step.refl _ _).alloc _
            have z50 : Hid (w50.heap.size = w49.heap.size + 1) := Lib.hid (by subst hw; simp)
            rw [hw]
            have y50 := s50.size
            refine hK.out _ _ (t49.tr s50) (fun t50 => ?_)
            clear hK K hw
            have f750 := f749.step s50 id
            have ft50 := ft49.step s50 id
            refine wpAnyH_all (rs := [6]) (fuel := 2) (by kernel_rfl) (by simp) ?_
            intro i hi
            obtain rfl : i = 6 := by simpa using hi
            refine wpOp_store rfl rfl 161 (.tmp 5) (.tmp 16) rfl w49.heap.size rfl (w32s W) rfl (by rw [words_size, w32s_length, HW.out]) (w32s_one _) 161 _ f550 (by rw [List.size_toArray, w32s_length, w32s_length, HW.out, List.length_replicate]) ?_
            intro w51 g5 s51
            have y51 := s51.size
            have g7 := f750.step s51 (by intro e; have q47 := z47.out; have q50 := z50.out; omega)
            have gt := ft50.step s51 (by intro e; have q47 := z47.out; have q50 := z50.out; omega)
            have t51 : Step (fun _ => False) w3 w51 := t50.trans s51 (fun i hi e => by have q47 := z47.out; have q50 := z50.out; omega)
            refine ⟨t51, ?_⟩
            refine any_take 6 (i := 7) (fuel := 1) (v := .pointer (some ⟨bt, 0, none⟩)) rfl rfl (by kernel_rfl) (by kernel_rfl) (by kernel_rfl) (fun _ _ _ h => by cases h.1) (Or.inl ⟨by rfl, fun w _ => by go_simp⟩) t51 ?_
            refine wpAnyH_all (rs := [8]) (fuel := 0) (by kernel_rfl) (by simp) ?_
            intro i hi
            obtain rfl : i = 8 := by simpa using hi
            refine wpOp_store rfl rfl 131 (.tmp 7) (.tmp 18) rfl wd.heap.size rfl (w32s L) rfl (by rw [eight_size, w32s_length, HL.out]) (w32s_one _) 131 _ g7 (by rw [List.size_toArray, w32s_length, w32s_length, HL.out, List.length_replicate]) ?_
            intro w52 g7 s52
            refine ⟨t51.trans s52 (fun i hi e => by have q47 := z47.out; have q50 := z50.out; omega), wpAnyH_done (by kernel_rfl) ?_ 0⟩
            refine ⟨rfl, w49.heap.size, wd.heap.size, bt, ?_, g5.step s52 (by intro e; have q47 := z47.out; have q50 := z50.out; omega), g7, gt.step s52 (by intro e; have q47 := z47.out; have q50 := z50.out; omega), by (have q47 := z47.out; have q50 := z50.out; omega), by (have q47 := z47.out; have q50 := z50.out; omega), by (have q47 := z47.out; have q50 := z50.out; omega), by (have q47 := z47.out; have q50 := z50.out; omega), by (have q47 := z47.out; have q50 := z50.out; omega), t51.trans s52 (fun i hi e => by have q47 := z47.out; have q50 := z50.out; omega)⟩
            kernel_rfl
        · rw [if_pos (by rfl)]
          refine op_wp_value (op_alloc 161 rfl _ words_zero) ?_
          obtain ⟨w53, hw⟩ : ∃ w', w48.alloc (.cells (Value.agg (w32s (List.replicate 64 0)).toArray).cells 161) = w' := ⟨_, rfl⟩
          have f553 : Blk w53 w48.heap.size 161 (w32s (List.replicate 64 0)).toArray := by subst hw; exact Blk.new w48 _ _
          have s53 : Step (fun _ => False) w48 w53 := by subst hw; exact (Step.refl _ _).alloc _
          have z53 : Hid (w53.heap.size = w48.heap.size + 1) := Lib.hid (by subst hw; simp)
          rw [hw]
          have y53 := s53.size
          refine hK.out _ _ (t48.tr s53) (fun t53 => ?_)
          clear hK K hw
          have f753 := f748.step s53 id
          refine wpAnyH_ready (rs := [2]) (fuel := 3) (by kernel_rfl) (by simp) ?_
          refine (AllReadyH.cons rfl (fun K hK => ?_) AllReadyH.nil)
          · go_simp
            go_wp2_with (go_at_call 97; refine table_code.mono ?_; rintro e w54 ⟨bt, rfl, ft54, gt54, s54⟩)
            have y54 := s54.size
            refine hK.out _ _ (t53.tr s54) (fun t54 => ?_)
            clear hK K
            have f754 := f753.step s54 id
            have f554 := f553.step s54 id
            have ht54 := ft54.lt
            refine wpAnyH_all (rs := [6]) (fuel := 2) (by kernel_rfl) (by simp) ?_
            intro i hi
            obtain rfl : i = 6 := by simpa using hi
            refine wpOp_store rfl rfl 161 (.tmp 5) (.tmp 16) rfl w48.heap.size rfl (w32s W) rfl (by rw [words_size, w32s_length, HW.out]) (w32s_one _) 161 _ f554 (by rw [List.size_toArray, w32s_length, w32s_length, HW.out, List.length_replicate]) ?_
            intro w55 g5 s55
            have y55 := s55.size
            have g7 := f754.step s55 (by intro e; have q47 := z47.out; have q53 := z53.out; omega)
            have gt := ft54.step s55 (by intro e; have q47 := z47.out; have q53 := z53.out; omega)
            have t55 : Step (fun _ => False) w3 w55 := t54.trans s55 (fun i hi e => by have q47 := z47.out; have q53 := z53.out; omega)
            refine ⟨t55, ?_⟩
            refine any_take 6 (i := 7) (fuel := 1) (v := .pointer (some ⟨bt, 0, none⟩)) rfl rfl (by kernel_rfl) (by kernel_rfl) (by kernel_rfl) (fun _ _ _ h => by cases h.1) (Or.inl ⟨by rfl, fun w _ => by go_simp⟩) t55 ?_
            refine wpAnyH_all (rs := [8]) (fuel := 0) (by kernel_rfl) (by simp) ?_
            intro i hi
            obtain rfl : i = 8 := by simpa using hi
            refine wpOp_store rfl rfl 131 (.tmp 7) (.tmp 18) rfl wd.heap.size rfl (w32s L) rfl (by rw [eight_size, w32s_length, HL.out]) (w32s_one _) 131 _ g7 (by rw [List.size_toArray, w32s_length, w32s_length, HL.out, List.length_replicate]) ?_
            intro w56 g7 s56
            refine ⟨t55.trans s56 (fun i hi e => by have q47 := z47.out; have q53 := z53.out; omega), wpAnyH_done (by kernel_rfl) ?_ 0⟩
            refine ⟨rfl, w48.heap.size, wd.heap.size, bt, ?_, g5.step s56 (by intro e; have q47 := z47.out; have q53 := z53.out; omega), g7, gt.step s56 (by intro e; have q47 := z47.out; have q53 := z53.out; omega), by (have q47 := z47.out; have q53 := z53.out; omega), by (have q47 := z47.out; have q53 := z53.out; omega), by (have q47 := z47.out; have q53 := z53.out; omega), by (have q47 := z47.out; have q53 := z53.out; omega), by (have q47 := z47.out; have q53 := z53.out; omega), t55.trans s56 (fun i hi e => by have q47 := z47.out; have q53 := z53.out; omega)⟩
            kernel_rfl
      · rw [if_pos (by rfl)]
        refine op_wp_value (op_alloc 161 rfl _ words_zero) ?_
        obtain ⟨w57, hw⟩ : ∃ w', w47.alloc (.cells (Value.agg (w32s (List.replicate 64 0)).toArray).cells 161) = w' := ⟨_, rfl⟩
        have f557 : Blk w57 w47.heap.size 161 (w32s (List.replicate 64 0)).toArray := by subst hw; exact Blk.new w47 _ _
        have s57 : Step (fun _ => False) w47 w57 := by subst hw; exact (Step.refl _ _).alloc _
        have z57 : Hid (w57.heap.size = w47.heap.size + 1) := Lib.hid (by subst hw; simp)
        rw [hw]
        have y57 := s57.size
        refine hK.out _ _ (t47.tr s57) (fun t57 => ?_)
        clear hK K hw
        have f757 := f747.step s57 id
        refine wpAnyH_ready (rs := [1]) (fuel := 4) (by kernel_rfl) (by simp) ?_
        refine (AllReadyH.cons rfl (fun K hK => ?_) AllReadyH.nil)
        · go_simp
          go_wp2_with (go_at_call 96; refine (sched_code Hb.out).mono ?_; rintro e w58 ⟨rfl, s58⟩; rw [HWe.out])
          have y58 := s58.size
          refine hK.out _ _ (t57.tr s58) (fun t58 => ?_)
          clear hK K
          have f758 := f757.step s58 id
          have f558 := f557.step s58 id
          refine wpAnyH_ready (rs := [2]) (fuel := 3) (by kernel_rfl) (by simp) ?_
          refine (AllReadyH.cons rfl (fun K hK => ?_) AllReadyH.nil)
          · go_simp
            go_wp2_with (go_at_call 97; refine table_code.mono ?_; rintro e w59 ⟨bt, rfl, ft59, gt59, s59⟩)
            have y59 := s59.size
            refine hK.out _ _ (t58.tr s59) (fun t59 => ?_)
            clear hK K
            have f759 := f758.step s59 id
            have f559 := f558.step s59 id
            have ht59 := ft59.lt
            refine wpAnyH_all (rs := [6]) (fuel := 2) (by kernel_rfl) (by simp) ?_
            intro i hi
            obtain rfl : i = 6 := by simpa using hi
            refine wpOp_store rfl rfl 161 (.tmp 5) (.tmp 16) rfl w47.heap.size rfl (w32s W) rfl (by rw [words_size, w32s_length, HW.out]) (w32s_one _) 161 _ f559 (by rw [List.size_toArray, w32s_length, w32s_length, HW.out, List.length_replicate]) ?_
            intro w60 g5 s60
            have y60 := s60.size
            have g7 := f759.step s60 (by intro e; have q47 := z47.out; have q57 := z57.out; omega)
            have gt := ft59.step s60 (by intro e; have q47 := z47.out; have q57 := z57.out; omega)
            have t60 : Step (fun _ => False) w3 w60 := t59.trans s60 (fun i hi e => by have q47 := z47.out; have q57 := z57.out; omega)
            refine ⟨t60, ?_⟩
            refine any_take 6 (i := 7) (fuel := 1) (v := .pointer (some ⟨bt, 0, none⟩)) rfl rfl (by kernel_rfl) (by kernel_rfl) (by kernel_rfl) (fun _ _ _ h => by cases h.1) (Or.inl ⟨by rfl, fun w _ => by go_simp⟩) t60 ?_
            refine wpAnyH_all (rs := [8]) (fuel := 0) (by kernel_rfl) (by simp) ?_
            intro i hi
            obtain rfl : i = 8 := by simpa using hi
            refine wpOp_store rfl rfl 131 (.tmp 7) (.tmp 18) rfl wd.heap.size rfl (w32s L) rfl (by rw [eight_size, w32s_length, HL.out]) (w32s_one _) 131 _ g7 (by rw [List.size_toArray, w32s_length, w32s_length, HL.out, List.length_replicate]) ?_
            intro w61 g7 s61
            refine ⟨t60.trans s61 (fun i hi e => by have q47 := z47.out; have q57 := z57.out; omega), wpAnyH_done (by kernel_rfl) ?_ 0⟩
            refine ⟨rfl, w47.heap.size, wd.heap.size, bt, ?_, g5.step s61 (by intro e; have q47 := z47.out; have q57 := z57.out; omega), g7, gt.step s61 (by intro e; have q47 := z47.out; have q57 := z57.out; omega), by (have q47 := z47.out; have q57 := z57.out; omega), by (have q47 := z47.out; have q57 := z57.out; omega), by (have q47 := z47.out; have q57 := z57.out; omega), by (have q47 := z47.out; have q57 := z57.out; omega), by (have q47 := z47.out; have q57 := z57.out; omega), t60.trans s61 (fun i hi e => by have q47 := z47.out; have q57 := z57.out; omega)⟩
            kernel_rfl
  · rintro e a' wq ⟨rfl, b5, b7, bt, rfl, q5, q7, qt, n75, n7t, z5, z7, zt, hSq⟩
    simp only [List.foldl_cons, List.foldl_nil, List.setIfInBounds_toArray, List.set_cons_succ, List.set_cons_zero]
    show Kc _ _
    refine hKc _ _ ?_
    have qh : Blk wq w.heap.size 131 (w32s L).toArray := ((hb1.step hS2 id).step hS3 id).step hSq id
    have qr : Blk wq w2.heap.size 131 (w32s (List.replicate 8 0)).toArray := hb3.step hSq id
    have hS0 : Step (fun _ => False) w wq := ((hS1.tr hS2).tr hS3).tr hSq
    have hz5 := hb3.lt
    clear hKc Kc hc1 hc2 hb1 hb2 hb3
    go_wp2
    go_step3
    go_wp2
    go_loopw [8] (fun i wr => ∃ t : Nat, i = .int .i64 t ∧ t ≤ 64 ∧ Blk wr b7 131 (w32s (compAt (S8.of L) W t).l).toArray ∧ Blk wr b5 161 (w32s W).toArray ∧ Blk wr bt 161 (w32s kT).toArray ∧ Blk wr w.heap.size 131 (w32s L).toArray ∧ Blk wr w2.heap.size 131 (w32s (List.replicate 8 0)).toArray ∧ Step (fun _ => False) w wr) (fun i _ => 64 - (intOf i).toNat)
    case atStart =>
      refine ⟨0, rfl, by omega, ?_, q5, qt, qh, qr, hS0⟩
      rw [compAt, S8.of_l HL.out]
      exact q7
    case round =>
      obtain ⟨t, rfl, ht, p7, p5, pt, ph, pr, hSr⟩ := hrel
      by_cases hlt : t < 64
      · have hne : ((t : Int) == 64) = false := by simp; omega
        have hti : (t : Int) < 64 := by omega
        have hsucc : compAt (S8.of L) W (t + 1) = rndW (compAt (S8.of L) W t) (kT.getD t 0) (W.getD t 0) := rfl
        have ck := pt.word (i := t) (by rw [kT_length]; exact hlt)
        have cw := p5.word (i := t) (by rw [HW.out]; exact hlt)
        generalize compAt (S8.of L) W t = s at *
        obtain ⟨a, b', c, d, e, f, g, h⟩ := s
        generalize kT.getD t 0 = kt at *
        generalize W.getD t 0 = wt at *
        have Hsucc := Lib.hid hsucc
        clear hsucc
        replace p7 : Blk wr b7 131 (w32s [a, b', c, d, e, f, g, h]).toArray := p7
        have k0 : wr.cell? ⟨b7, 0, none⟩ = some (.int .u32 (a.toNat : Int)) := p7.cell 0
        have k1 : wr.cell? ⟨b7, 1, none⟩ = some (.int .u32 (b'.toNat : Int)) := p7.cell 1
        have k2 : wr.cell? ⟨b7, 2, none⟩ = some (.int .u32 (c.toNat : Int)) := p7.cell 2
        have k4 : wr.cell? ⟨b7, 4, none⟩ = some (.int .u32 (e.toNat : Int)) := p7.cell 4
        have k5 : wr.cell? ⟨b7, 5, none⟩ = some (.int .u32 (f.toNat : Int)) := p7.cell 5
        have k6 : wr.cell? ⟨b7, 6, none⟩ = some (.int .u32 (g.toNat : Int)) := p7.cell 6
        have k7 : wr.cell? ⟨b7, 7, none⟩ = some (.int .u32 (h.toNat : Int)) := p7.cell 7
        have e1 := w_xor f g
        have e2 := w_and e (xorW f g)
        obtain ⟨ch, hch⟩ : ∃ z, xorW g (andW e (xorW f g)) = z := ⟨_, rfl⟩
        have e3 := w_xor g (andW e (xorW f g))
        rw [hch] at e3
        have m1 := w_and a b'
        have m2 := w_or a b'
        have m3 := w_and c (orW a b')
        obtain ⟨mj, hmj⟩ : ∃ z, orW (andW a b') (andW c (orW a b')) = z := ⟨_, rfl⟩
        have m4 := w_or (andW a b') (andW c (orW a b'))
        rw [hmj] at m4
        obtain ⟨y1, hy1⟩ : ∃ z, turnM e 6 11 25 false = z := ⟨_, rfl⟩
        obtain ⟨y2, hy2⟩ : ∃ z, turnM a 2 13 22 false = z := ⟨_, rfl⟩
        have hT1 : ∀ W', Calls Try.prog 98 #[.int .u32 e.toNat, .int .i64 6, .int .i64 11, .int .i64 25, .bool false] W' fun r w' => r = .returned (.int .u32 y1.toNat) ∧ w' = W' := fun W' => hy1 ▸ turned_code (w := W') (x := e) (a := 6) (b := 11) (c := 25) (by omega) (by omega) (by omega) (by omega) (by omega) (by omega) false
        have hT2 : ∀ W', Calls Try.prog 98 #[.int .u32 a.toNat, .int .i64 2, .int .i64 13, .int .i64 22, .bool false] W' fun r w' => r = .returned (.int .u32 y2.toNat) ∧ w' = W' := fun W' => hy2 ▸ turned_code (w := W') (x := a) (a := 2) (b := 13) (c := 22) (by omega) (by omega) (by omega) (by omega) (by omega) (by omega) false
        have wadd : ∀ x y : UInt32, IntKind.u32.wrap ((x.toNat : Int) + (y.toNat : Int)) = ((addW x y).toNat : Int) := fun x y => by rw [IntKind.wrap_u32']; exact w_add x y
        obtain ⟨one, hone⟩ : ∃ z, oneW ⟨a, b', c, d, e, f, g, h⟩ kt wt = z := ⟨_, rfl⟩
        obtain ⟨two, htwo⟩ : ∃ z, twoW ⟨a, b', c, d, e, f, g, h⟩ = z := ⟨_, rfl⟩
        have hone' : addW (addW (addW (addW h y1) ch) kt) wt = one := by rw [← hone, ← hy1, ← hch]; rfl
        have htwo' : addW y2 mj = two := by rw [← htwo, ← hy2, ← hmj]; rfl
        have hnew : rndW ⟨a, b', c, d, e, f, g, h⟩ kt wt = ⟨addW one two, a, b', c, addW d one, e, f, g⟩ := by rw [← hone, ← htwo]; rfl
        rw [hnew] at Hsucc
        have a1 := wadd h y1
        have a2 := wadd (addW h y1) ch
        have a3 := wadd (addW (addW h y1) ch) kt
        have a4 := wadd (addW (addW (addW h y1) ch) kt) wt
        have b1 := wadd y2 mj
        have c1 := wadd d one
        have c2 := wadd one two
        rw [hone'] at a4
        rw [htwo'] at b1
        have a1' := w_add h y1
        have a2' := w_add (addW h y1) ch
        have a3' := w_add (addW (addW h y1) ch) kt
        have a4' := w_add (addW (addW (addW h y1) ch) kt) wt
        have b1' := w_add y2 mj
        have c1' := w_add d one
        have c2' := w_add one two
        rw [hone'] at a4'
        rw [htwo'] at b1'
        clear hch hmj hy1 hy2 wadd hone htwo hone' htwo' hnew
        go_wp2_with fail
        go_quiet ((go_at_call 98; exact Calls.quiet_of_same (hT1 _)))
        clear hT1 a1 a2 a3 a4 a1' a2' a3' a4' e1 e2 e3 m1 m2 m3 m4
        go_wp2_with (go_at_call 98; refine (hT2 _).mono ?_; rintro r w9 ⟨rfl, rfl⟩; clear hT2)
        obtain ⟨wq, hwq⟩ : ∃ wq, wr.drewN nq = wq := ⟨_, rfl⟩
        have r7 : Blk wq b7 131 (w32s [a, b', c, d, e, f, g, h]).toArray := hwq ▸ p7
        have r5 : Blk wq b5 161 (w32s W).toArray := hwq ▸ p5
        have rt : Blk wq bt 161 (w32s kT).toArray := hwq ▸ pt
        have rh : Blk wq w.heap.size 131 (w32s L).toArray := hwq ▸ ph
        have rr : Blk wq w2.heap.size 131 (w32s (List.replicate 8 0)).toArray := hwq ▸ pr
        have rS : Step (fun _ => False) w wq := hwq ▸ hSr.drewN nq
        rw [hwq]
        clear hwq k0 k1 k2 k4 k5 k6 k7 ck cw p7 p5 pt ph pr hSr
        have rd : Blk wq.drew b7 131 (w32s [a, b', c, d, e, f, g, h]).toArray := r7
        refine wp_region_still_tail 2 (by kernel_rfl) (by kernel_rfl) ?_
        simp only [List.take_succ_cons, List.take_zero, List.drop_succ_cons, List.drop_zero]
        change wpStill _ _ wq.drew _ _ _
        repeat still_step
        refine wpStill_nil ?_
        change wpList _ _ _ _ _ wq.drew
        refine wl_copy_blk (w := wq.drew) rfl (.tmp 69) (.tmp 70) 116 116 rfl 44 Try.underlying116 word_size b7 1 7 7 ⟨b7, 0, none⟩ 7 8 ?hd ?hs (w32s [a, b', c, d, e, f, g, h]).toArray 131 rd (w32s [a, b', c, d, e, f, g]) ?hn (fun j v hj => ?hsrc) ?hfit (w32s_one _) ?hk
        case hd => rfl
        case hs => rfl
        case hn => rfl
        case hfit => simp [w32s]
        case hsrc =>
          rw [add_none, Nat.zero_add, rd.cell, List.getElem?_toArray]
          have hj7 : j < 7 := (List.getElem?_eq_some_iff.1 hj).1
          have happ : w32s [a, b', c, d, e, f, g, h] = w32s [a, b', c, d, e, f, g] ++ [w32 h] := rfl
          rw [happ, List.getElem?_append_left (by simpa [w32s] using hj7)]
          exact hj
        case hk =>
          intro wc hbc hSc
          have hcat : (w32s [a, b', c, d, e, f, g, h]).toArray.toList.take 1 ++ (w32s [a, b', c, d, e, f, g] ++ (w32s [a, b', c, d, e, f, g, h]).toArray.toList.drop (1 + (w32s [a, b', c, d, e, f, g]).length)) = w32s [a, a, b', c, d, e, f, g] := by simp [w32s]
          rw [hcat] at hbc
          clear hcat
          have k4 : wc.cell? ⟨b7, 4, none⟩ = some (.int .u32 (d.toNat : Int)) := hbc.cell 4
          rw [show (goInt (w32s [a, b', c, d, e, f, g]).length) = goInt 7 from rfl]
          simp only [Act.put, List.setIfInBounds_toArray, List.set_cons_zero, List.set_cons_succ]
          go_wp2_with (first
            | (refine wl_put _ rfl 44 _ _ rfl b7 4 rfl (.int .u32 ((addW d one).toNat : Int)) rfl rfl rfl word_size 131 _ hbc (by simp [w32s]) ?_; intro wd hbd hSd; clear k4)
            | (refine wl_put _ rfl 44 _ _ rfl b7 0 rfl (.int .u32 ((addW one two).toNat : Int)) rfl rfl rfl word_size 131 _ hbd (by simp [w32s]) ?_; intro we hbe hSe))
          rw [w32s_set, w32s_set] at hbe
          have S3 : Step (fun k => k = b7) wq.drew we := (hSc.tr hSd).tr hSe
          refine ⟨⟨t + 1, by go_num, by omega, ?_, r5.drew.step S3 (fun e => n75 e.symm), rt.drew.step S3 (fun e => n7t e.symm), rh.drew.step S3 (by omega), rr.drew.step S3 (by omega), rS.drew.trans S3 (fun i hi e => by omega)⟩, by simp only [intOf]; omega⟩
          rw [Hsucc.out]
          exact hbe
      · have : t = 64 := by omega
        subst this
        obtain ⟨Z, hZ⟩ : ∃ Z, (compAt (S8.of L) W 64).l = Z := ⟨_, rfl⟩
        have hZl : Z.length = 8 := by rw [← hZ]; rfl
        rw [hZ] at p7
        have HZ := Lib.hid hZ
        have HZl := Lib.hid hZl
        clear hZ hZl
        have hcZ : Cells wr b7 0 (w32s Z) := p7.cells
        go_wp2_with (refine wl_load rfl 131 _ rfl b7 0 rfl (w32s Z) _ Try.underlying131 rfl (by rw [eight_size, w32s_length, HZl.out]) hcZ ?_)
        clear p7 p5 pt hcZ
        go_loopw [84] (fun i wr' => ∃ j : Nat, i = .int .i64 j ∧ j ≤ 8 ∧ Blk wr' w.heap.size 131 (w32s (addAt L Z j)).toArray ∧ Blk wr' w2.heap.size 131 (w32s (List.replicate 8 0)).toArray ∧ Step (fun _ => False) w wr') (fun i _ => 8 - (intOf i).toNat)
        case atStart => exact ⟨0, rfl, by omega, ph, pr, hSr⟩
        case round =>
          obtain ⟨j, rfl, hj, vh, vr, vS⟩ := hrel
          by_cases hlj : j < 8
          · have hji : (j : Int) < 8 := by omega
            have hlen : (addAt L Z j).length = 8 := by rw [addAt_length, HL.out]
            have cx := vh.word (i := j) (by rw [hlen]; exact hlj)
            have hzi : (w32s Z)[j]? = some (.int .u32 ((Z.getD j 0).toNat : Int)) := by
              have hjz : j < Z.length := by rw [HZl.out]; exact hlj
              rw [w32s_get Z j hjz, List.getD_eq_getElem?_getD, List.getElem?_eq_getElem hjz]
              rfl
            have hidx : ∀ W', (Instr.index 131 (.agg (w32s Z).toArray) (.int .i64 (j : Int))).run Try.prog W' = .ok (.int .u32 ((Z.getD j 0).toNat : Int)) W' := fun W' => run_index_one Try.underlying131 Try.underlying44 rfl word_size hlj (by rw [List.getElem?_toArray]; exact hzi)
            have hnext : addAt L Z (j + 1) = (addAt L Z j).set j (addW ((addAt L Z j).getD j 0) (Z.getD j 0)) := rfl
            have Hnext := Lib.hid hnext
            have Hlen := Lib.hid hlen
            clear hnext hlen
            generalize (addAt L Z j).getD j 0 = x at *
            generalize Z.getD j 0 = z at *
            have a1 : IntKind.u32.wrap ((x.toNat : Int) + (z.toNat : Int)) = ((addW x z).toNat : Int) := by rw [IntKind.wrap_u32']; exact w_add x z
            have a2 := w_add x z
            go_wp2_with (refine wl_put _ rfl 44 _ _ rfl w.heap.size j rfl (.int .u32 ((addW x z).toNat : Int)) rfl rfl rfl word_size 131 _ vh (by rw [List.size_toArray, w32s_length, Hlen.out]; exact hlj) ?_; intro w9 hb9 hS9)
            rw [w32s_set] at hb9
            refine ⟨⟨j + 1, by go_num, by omega, by rw [Hnext.out]; exact hb9, vr.step hS9 (by omega), vS.trans hS9 (fun i hi e => by omega)⟩, by simp only [intOf]; omega⟩
          · have : j = 8 := by omega
            subst this
            have hM : compM L b = addAt L Z 8 := by rw [compM, HWe.out, HZ.out]
            have hlen : (addAt L Z 8).length = 8 := by rw [addAt_length, HL.out]
            generalize addAt L Z 8 = V at *
            have HM := Lib.hid hM
            have Hlen := Lib.hid hlen
            clear hM hlen
            have hcV : Cells wr w.heap.size 0 (w32s V) := vh.cells
            go_wp2_with (first
              | (refine wl_load rfl 131 _ rfl w.heap.size 0 rfl (w32s V) _ Try.underlying131 rfl (by rw [eight_size, w32s_length, Hlen.out]) hcV ?_)
              | (refine wl_store_all rfl 131 _ _ rfl w2.heap.size rfl (w32s V) rfl (by rw [eight_size, w32s_length, Hlen.out]) (w32s_one _) 131 _ vr (by rw [List.size_toArray, w32s_length, w32s_length, Hlen.out, List.length_replicate]) ?_; intro w9 hb9 hS9 hz; clear hz))
            have hc9 : Cells w9 w2.heap.size 0 (w32s V) := hb9.cells
            (try rw [Exit.noGoto_ret])
            refine bodyPost_ret (res_cell1 rfl rfl (run_loadVar_agg Try.underlying131 rfl (by rw [eight_size, w32s_length, Hlen.out]) hc9)) rfl ?_
            exact ⟨by rw [HM.out], vS.trans hS9 (fun i hi e => by omega)⟩
end Go.Proofs.Ytcmgjoamfjijhaa

