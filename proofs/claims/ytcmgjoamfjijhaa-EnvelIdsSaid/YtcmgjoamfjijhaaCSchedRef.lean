/- The words of a block, by the reference. -/
import Derived.Test.YtcmgjoamfjijhaaCSched
namespace Go.Proofs.Ytcmgjoamfjijhaa
open Go.RowKit

theorem shl_or (x y : UInt32) (k : Nat) : shlW (orW x y) k = orW (shlW x k) (shlW y k) := by
  simp only [shlW, orW]
  apply UInt32.eq_of_toBitVec_eq
  simp [BitVec.shiftLeft_or_distrib]
theorem shl_88 (x : UInt32) : shlW (shlW x 8) 8 = shlW x 16 := by
  simp only [shlW]
  apply UInt32.eq_of_toBitVec_eq
  simp [← BitVec.shiftLeft_add]
theorem shl_168 (x : UInt32) : shlW (shlW x 16) 8 = shlW x 24 := by
  simp only [shlW]
  apply UInt32.eq_of_toBitVec_eq
  simp [← BitVec.shiftLeft_add]
theorem be4 (a b c d : UInt8) : beW [a, b, c, d] = orW (orW (orW (shlW (up a) 24) (shlW (up b) 16)) (shlW (up c) 8)) (up d) := by
  have h0 : shlW 0 8 = 0 := by decide
  have h1 : ∀ x, orW 0 x = x := fun x => by simp [orW]
  simp only [beW, List.foldl_cons, List.foldl_nil, h0, h1, shl_or, shl_88, shl_168]

set_option maxRecDepth 100000 in
set_option maxHeartbeats 4000000 in
theorem sched_ref {w : World} {b : List UInt8} (hb : b.length = 64) :
    Calls Try.prog 117 #[arr b] w fun e w' => e = .returned (.agg (w32s (schedM b)).toArray) ∧ Step (fun _ => False) w w' := by
  have Hb := Lib.hid hb
  clear hb
  have hA := Lib.hid True.intro
  go_enter Try.func117, Try.ntmps117
  go_wp2_with (first
    | (refine wl_box rfl 120 (.tmp 0) rfl (arr b) rfl ?_; intro w1 hb1 hS1 hw; clear hw)
    | (clear hA; refine wl_alloc rfl 161 rfl _ words_zero ?_; intro w2 hb2 hS2 hw; have hz0 := hb2.lt; have hz9 := (hb1.step hS2 id).lt; clear hw)
    | (refine wl_alloc rfl 161 rfl _ words_zero ?_; intro w3 hb3 hS3 hw; clear hw))
  replace hb1 : Blk w3 w.heap.size 120 (u8s b).toArray := (hb1.step hS2 id).step hS3 id
  replace hb2 : Blk w3 w1.heap.size 161 (w32s (List.replicate 64 0)).toArray := hb2.step hS3 id
  replace hb3 : Blk w3 w2.heap.size 161 (w32s (schedAt b 0)).toArray := hb3
  have hS : Step (fun _ => False) w w3 := (hS1.tr hS2).tr hS3
  have hn1 : w.heap.size ≠ w2.heap.size := by omega
  have hn2 : w1.heap.size ≠ w2.heap.size := by omega
  go_loopw [7] (fun i wr => ∃ t : Nat, i = .int .i64 t ∧ t ≤ 64 ∧ Blk wr w2.heap.size 161 (w32s (schedAt b t)).toArray ∧ Blk wr w.heap.size 120 (u8s b).toArray ∧ Blk wr w1.heap.size 161 (w32s (List.replicate 64 0)).toArray ∧ Step (fun _ => False) w wr) (fun i _ => 64 - (intOf i).toNat)
  case atStart => exact ⟨0, rfl, by omega, hb3, hb1, hb2, hS⟩
  case round =>
    obtain ⟨t, rfl, ht, hW, hB, hR, hSr⟩ := hrel
    by_cases hlt : t < 16
    · have hbl : ∀ i, i < 64 → wr.drew.cell? ⟨w.heap.size, i, none⟩ = some (.int .u8 ((b.getD i 0).toNat : Int)) := fun i hi => by
        have h1 : i < b.length := by rw [Hb.out]; exact hi
        refine (hB.cell _).trans ?_
        rw [List.getElem?_toArray, u8s_get b i h1, List.getD_eq_getElem?_getD, List.getElem?_eq_getElem h1]
        rfl
      have c0 := hbl (4 * t) (by omega)
      have c1 := hbl (4 * t + 1) (by omega)
      have c2 := hbl (4 * t + 2) (by omega)
      have c3 := hbl (4 * t + 3) (by omega)
      clear hbl
      have htk : (b.drop (4 * t)).take 4 = [b.getD (4 * t) 0, b.getD (4 * t + 1) 0, b.getD (4 * t + 2) 0, b.getD (4 * t + 3) 0] := by
        have hl := Hb.out
        have h5 : ∀ j (hj : j < 64), b.getD j 0 = b[j]'(by omega) := fun j hj => by rw [List.getD_eq_getElem?_getD, List.getElem?_eq_getElem (by omega)]; rfl
        rw [h5 _ (by omega), h5 _ (by omega), h5 _ (by omega), h5 _ (by omega)]
        rw [List.drop_eq_getElem_cons (show 4 * t < b.length by omega), List.take_succ_cons, List.drop_eq_getElem_cons (show 4 * t + 1 < b.length by omega), List.take_succ_cons, List.drop_eq_getElem_cons (show 4 * t + 1 + 1 < b.length by omega), List.take_succ_cons, List.drop_eq_getElem_cons (show 4 * t + 1 + 1 + 1 < b.length by omega), List.take_succ_cons, List.take_zero]
      have hnew := be4 (b.getD (4 * t) 0) (b.getD (4 * t + 1) 0) (b.getD (4 * t + 2) 0) (b.getD (4 * t + 3) 0)
      rw [← htk] at hnew
      have Hnew := Lib.hid hnew
      clear hnew htk
      generalize b.getD (4 * t) 0 = x0 at *
      generalize b.getD (4 * t + 1) 0 = x1 at *
      generalize b.getD (4 * t + 2) 0 = x2 at *
      generalize b.getD (4 * t + 3) 0 = x3 at *
      have m0 : IntKind.u32.wrap (x0.toNat : Int) = (x0.toNat : Int) := by rw [IntKind.wrap_u32']; have := x0.toNat_lt; omega
      have m1 : IntKind.u32.wrap (x1.toNat : Int) = (x1.toNat : Int) := by rw [IntKind.wrap_u32']; have := x1.toNat_lt; omega
      have m2 : IntKind.u32.wrap (x2.toNat : Int) = (x2.toNat : Int) := by rw [IntKind.wrap_u32']; have := x2.toNat_lt; omega
      have m3 : IntKind.u32.wrap (x3.toNat : Int) = (x3.toNat : Int) := by rw [IntKind.wrap_u32']; have := x3.toNat_lt; omega
      have s0 : IntKind.u32.wrap ((x0.toNat : Int) * 16777216) = ((shlW (up x0) 24).toNat : Int) := by rw [IntKind.wrap_u32', ← up_val]; exact w_shl (up x0) (k := 24) (by omega)
      have s1 : IntKind.u32.wrap ((x1.toNat : Int) * 65536) = ((shlW (up x1) 16).toNat : Int) := by rw [IntKind.wrap_u32', ← up_val]; exact w_shl (up x1) (k := 16) (by omega)
      have s2 : IntKind.u32.wrap ((x2.toNat : Int) * 256) = ((shlW (up x2) 8).toNat : Int) := by rw [IntKind.wrap_u32', ← up_val]; exact w_shl (up x2) (k := 8) (by omega)
      have o1 := w_or (shlW (up x0) 24) (shlW (up x1) 16)
      have o2 := w_or (orW (shlW (up x0) 24) (shlW (up x1) 16)) (shlW (up x2) 8)
      have o3 := w_or (orW (orW (shlW (up x0) 24) (shlW (up x1) 16)) (shlW (up x2) 8)) (up x3)
      rw [up_val x3] at o3
      have w0 : IntKind.i64.wrap (4 * (t : Int)) = 4 * (t : Int) := wrap_small _ (by omega) (by omega)
      have w1' : IntKind.i64.wrap (4 * (t : Int) + 1) = 4 * (t : Int) + 1 := wrap_small _ (by omega) (by omega)
      have w2' : IntKind.i64.wrap (4 * (t : Int) + 2) = 4 * (t : Int) + 2 := wrap_small _ (by omega) (by omega)
      have w3' : IntKind.i64.wrap (4 * (t : Int) + 3) = 4 * (t : Int) + 3 := wrap_small _ (by omega) (by omega)
      have n0 : (4 * (t : Int)).toNat = 4 * t := by omega
      have n1 : (4 * (t : Int) + 1).toNat = 4 * t + 1 := by omega
      have n2 : (4 * (t : Int) + 2).toNat = 4 * t + 2 := by omega
      have n3 : (4 * (t : Int) + 3).toNat = 4 * t + 3 := by omega
      have f0 : (0 : Int) ≤ 4 * (t : Int) := by omega
      have f1 : 4 * (t : Int) < 64 := by omega
      have f2 : 4 * (t : Int) + 1 < 64 := by omega
      have f3 : 4 * (t : Int) + 2 < 64 := by omega
      have f4 : 4 * (t : Int) + 3 < 64 := by omega
      have f6 : (0 : Int) ≤ 4 * (t : Int) + 1 := by omega
      have f7 : (0 : Int) ≤ 4 * (t : Int) + 2 := by omega
      have f8 : (0 : Int) ≤ 4 * (t : Int) + 3 := by omega
      have f5 : (t : Int) < 64 := by omega
      have hd : Blk wr.drew w2.heap.size 161 (w32s (schedAt b t)).toArray := hW
      go_wp2_with fail
      refine wp_region_still_tail 31 (by kernel_rfl) (by kernel_rfl) ?_
      simp only [List.take_succ_cons, List.take_zero, List.drop_succ_cons, List.drop_zero]
      change wpStill _ _ wr.drew _ _ _
      repeat still_step
      refine wpStill_nil ?_
      go_wp2_with (refine wl_put _ rfl 44 _ _ rfl w2.heap.size t rfl (.int .u32 ((orW (orW (orW (shlW (up x0) 24) (shlW (up x1) 16)) (shlW (up x2) 8)) (up x3)).toNat : Int)) rfl rfl rfl word_size 161 _ hd (by rw [List.size_toArray, w32s_length, schedAt_length]; omega) ?_; intro w9 hb9 hS9)
      rw [w32s_set] at hb9
      refine ⟨⟨t + 1, by go_num, by omega, ?_, hB.drew.step hS9 hn1, hR.drew.step hS9 hn2, hSr.drew.trans hS9 (fun i hi e => by have := hS1.size; omega)⟩, by simp only [intOf]; omega⟩
      rw [schedAt, if_pos hlt, Hnew.out]
      exact hb9
    · by_cases hlt2 : t < 64
      · have hlen := schedAt_length b t
        have hmix : mixW (schedAt b t) t = addW (addW (addW (turnM ((schedAt b t).getD (t - 2) 0) 17 19 10 true) ((schedAt b t).getD (t - 7) 0)) (turnM ((schedAt b t).getD (t - 15) 0) 7 18 3 true)) ((schedAt b t).getD (t - 16) 0) := rfl
        have c2 := hW.word (i := t - 2) (by omega)
        have c15 := hW.word (i := t - 15) (by omega)
        have c7 := hW.word (i := t - 7) (by omega)
        have c16 := hW.word (i := t - 16) (by omega)
        have s2 : (t : Int) - 2 = ((t - 2 : Nat) : Int) := by omega
        have s7 : (t : Int) - 7 = ((t - 7 : Nat) : Int) := by omega
        have s15 : (t : Int) - 15 = ((t - 15 : Nat) : Int) := by omega
        have s16 : (t : Int) - 16 = ((t - 16 : Nat) : Int) := by omega
        have v2 : IntKind.i64.wrap ((t - 2 : Nat) : Int) = ((t - 2 : Nat) : Int) := wrap_small _ (by omega) (by omega)
        have v7 : IntKind.i64.wrap ((t - 7 : Nat) : Int) = ((t - 7 : Nat) : Int) := wrap_small _ (by omega) (by omega)
        have v15 : IntKind.i64.wrap ((t - 15 : Nat) : Int) = ((t - 15 : Nat) : Int) := wrap_small _ (by omega) (by omega)
        have v16 : IntKind.i64.wrap ((t - 16 : Nat) : Int) = ((t - 16 : Nat) : Int) := wrap_small _ (by omega) (by omega)
        have i2 : ((t - 2 : Nat) : Int) < 64 := by omega
        have i7 : ((t - 7 : Nat) : Int) < 64 := by omega
        have i15 : ((t - 15 : Nat) : Int) < 64 := by omega
        have i16 : ((t - 16 : Nat) : Int) < 64 := by omega
        have it : (t : Int) < 64 := by omega
        have Hmix := Lib.hid hmix
        clear hmix hlen
        generalize (schedAt b t).getD (t - 2) 0 = x2 at *
        generalize (schedAt b t).getD (t - 7) 0 = x7 at *
        generalize (schedAt b t).getD (t - 15) 0 = x15 at *
        generalize (schedAt b t).getD (t - 16) 0 = x16 at *
        go_wp2_with fail
        go_quiet (fail)
        have hwq : ∃ wq, wr.drewN nq = wq := ⟨_, rfl⟩
        obtain ⟨wq, hwq⟩ := hwq
        have qW : Blk wq w2.heap.size 161 (w32s (schedAt b t)).toArray := hwq ▸ hW
        have qB : Blk wq w.heap.size 120 (u8s b).toArray := hwq ▸ hB
        have qR : Blk wq w1.heap.size 161 (w32s (List.replicate 64 0)).toArray := hwq ▸ hR
        have qS : Step (fun _ => False) w wq := hwq ▸ hSr.drewN nq
        have d7 : wq.drew.cell? ⟨w2.heap.size, t - 7, none⟩ = some (.int .u32 (x7.toNat : Int)) := hwq ▸ c7
        have d16 : wq.drew.cell? ⟨w2.heap.size, t - 16, none⟩ = some (.int .u32 (x16.toNat : Int)) := hwq ▸ c16
        rw [hwq]
        clear c2 c15 c7 c16 hwq
        have r1 : Calls Try.prog 113 #[.int .u32 x2.toNat, .int .i64 (-17)] wq.drew fun e w' => e = .returned (.int .u32 (rotr x2 17).toNat) ∧ w' = wq.drew := rol_code (a := 17) (by omega) (by omega)
        have r2 : Calls Try.prog 113 #[.int .u32 x2.toNat, .int .i64 (-19)] wq.drew fun e w' => e = .returned (.int .u32 (rotr x2 19).toNat) ∧ w' = wq.drew := rol_code (a := 19) (by omega) (by omega)
        have r3 : Calls Try.prog 113 #[.int .u32 x15.toNat, .int .i64 (-7)] wq.drew fun e w' => e = .returned (.int .u32 (rotr x15 7).toNat) ∧ w' = wq.drew := rol_code (a := 7) (by omega) (by omega)
        have r4 : Calls Try.prog 113 #[.int .u32 x15.toNat, .int .i64 (-18)] wq.drew fun e w' => e = .returned (.int .u32 (rotr x15 18).toNat) ∧ w' = wq.drew := rol_code (a := 18) (by omega) (by omega)
        have t1 : turnM x2 17 19 10 true = xorW (xorW (rotr x2 17) (rotr x2 19)) (shrW x2 10) := rfl
        have t2 : turnM x15 7 18 3 true = xorW (xorW (rotr x15 7) (rotr x15 18)) (shrW x15 3) := rfl
        rw [t1, t2] at Hmix
        clear t1 t2
        generalize rotr x2 17 = z1 at *
        generalize rotr x2 19 = z2 at *
        generalize rotr x15 7 = z3 at *
        generalize rotr x15 18 = z4 at *
        have e1 := w_xor z1 z2
        have e2 : (x2.toNat : Int) / 1024 = ((shrW x2 10).toNat : Int) := w_shr x2 (k := 10) (by omega)
        have e3 := w_xor (xorW z1 z2) (shrW x2 10)
        have e4 := w_xor z3 z4
        have e5 : (x15.toNat : Int) / 8 = ((shrW x15 3).toNat : Int) := w_shr x15 (k := 3) (by omega)
        have e6 := w_xor (xorW z3 z4) (shrW x15 3)
        have wadd : ∀ x y : UInt32, IntKind.u32.wrap ((x.toNat : Int) + (y.toNat : Int)) = ((addW x y).toNat : Int) := fun x y => by rw [IntKind.wrap_u32']; exact w_add x y
        have a1 := wadd (xorW (xorW z1 z2) (shrW x2 10)) x7
        have a2 := wadd (addW (xorW (xorW z1 z2) (shrW x2 10)) x7) (xorW (xorW z3 z4) (shrW x15 3))
        have a3 := wadd (addW (addW (xorW (xorW z1 z2) (shrW x2 10)) x7) (xorW (xorW z3 z4) (shrW x15 3))) x16
        clear wadd
        go_wp2_with fail
        refine wp_region_still_tail 29 (by kernel_rfl) (by kernel_rfl) ?_
        simp only [List.take_succ_cons, List.take_zero, List.drop_succ_cons, List.drop_zero]
        change wpStill _ _ wq.drew _ _ _
        repeat (first
          | still_step
          | (refine wpStill_step (fun K hK => ?_); go_simp; refine ⟨.int .u32 (z1.toNat : Int), r1, hK _ ?_⟩; clear hK K r1)
          | (refine wpStill_step (fun K hK => ?_); go_simp; refine ⟨.int .u32 (z2.toNat : Int), r2, hK _ ?_⟩; clear hK K r2)
          | (refine wpStill_step (fun K hK => ?_); go_simp; refine ⟨.int .u32 (z3.toNat : Int), r3, hK _ ?_⟩; clear hK K r3)
          | (refine wpStill_step (fun K hK => ?_); go_simp; refine ⟨.int .u32 (z4.toNat : Int), r4, hK _ ?_⟩; clear hK K r4))
        refine wpStill_nil ?_
        go_wp2_with (refine wl_put _ rfl 44 _ _ rfl w2.heap.size t rfl (.int .u32 ((addW (addW (addW (xorW (xorW z1 z2) (shrW x2 10)) x7) (xorW (xorW z3 z4) (shrW x15 3))) x16).toNat : Int)) rfl rfl rfl word_size 161 _ qW.drew (by rw [List.size_toArray, w32s_length, schedAt_length]; exact hlt2) ?_; intro w9 hb9 hS9)
        rw [w32s_set] at hb9
        refine ⟨⟨t + 1, by go_num, by omega, ?_, qB.drew.step hS9 hn1, qR.drew.step hS9 hn2, qS.drew.trans hS9 (fun i hi e => by have := hS1.size; omega)⟩, by simp only [intOf]; omega⟩
        rw [schedAt, if_neg hlt, Hmix.out]
        exact hb9
      · have : t = 64 := by omega
        subst this
        have hlen := schedAt_length b 64
        rw [schedM_def] at hW hlen
        generalize hL : schedM b = L at hW hlen
        have HL := Lib.hid hL
        have H64 := Lib.hid hlen
        clear hlen hL
        have hcL : Cells wr w2.heap.size 0 (w32s L) := hW.cells
        go_wp2_with (first
          | (refine wl_load rfl 161 _ rfl w2.heap.size 0 rfl (w32s L) _ Try.underlying161 rfl (by rw [words_size, w32s_length, H64.out]) hcL ?_)
          | (refine wl_store_all rfl 161 _ _ rfl w1.heap.size rfl (w32s L) rfl (by rw [words_size, w32s_length, H64.out]) (w32s_one _) 161 _ hR (by rw [List.size_toArray, w32s_length, w32s_length, H64.out, List.length_replicate]) ?_; intro w9 hb9 hS9 hz; clear hz))
        have hc9 : Cells w9 w1.heap.size 0 (w32s L) := hb9.cells
        refine bodyPost_ret (res_cell1 rfl rfl (run_loadVar_agg Try.underlying161 rfl (by rw [words_size, w32s_length, H64.out]) hc9)) rfl ?_
        exact ⟨by rw [HL.out], hSr.trans hS9 (fun i hi e => by have := hS1.size; omega)⟩
end Go.Proofs.Ytcmgjoamfjijhaa
