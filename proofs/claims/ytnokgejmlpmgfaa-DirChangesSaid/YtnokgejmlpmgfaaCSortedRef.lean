/- The reference's Sorted. -/
import Derived.Test.YtnokgejmlpmgfaaCStrOrd
import Derived.Test.YtnokgejmlpmgfaaCDirNames
import Derived.Test.YtnokgejmlpmgfaaCB2
import Derived.Test.YtnokgejmlpmgfaaCRefLinks
import Derived.Shelf.SlSorted.Search
namespace Go.Proofs.Ytnokgejmlpmgfaa
open Go.RowKit
set_option linter.unusedVariables false
set_option linter.unusedSimpArgs false

set_option maxRecDepth 100000 in
set_option maxHeartbeats 2000000 in
theorem sorted_ref {S : Nat → Prop} {w0 w : World} {L : List Ent} {A : Option Addr} {c : Nat} {l : List (List UInt8)} (h : St S w0 w L) [ka : HasSl L A l.length c 1 (l.flatMap txc)] (hl : l.length ≤ 1000000) :
    Calls Try.prog 51 #[.slice A l.length c] w fun e w' => ∃ A1 c1, e = .returned (.slice A1 (sortedS l).length c1) ∧ St S w0 w' (eOwn 9 1 A1 (sortedS l).length c1 ((sortedS l).flatMap txc) :: L) := by
  have ka2 := ka
  go_enter Try.func51, Try.ntmps51
  go_wp2
  go_loopw [3, 9] (fun ov iv wr => ∃ (i : Nat) (B : Option Addr) (d : Nat) (out : List (List UInt8)), ov = .slice B out.length d ∧ iv = .int .i64 (i : Int) ∧ i ≤ l.length ∧ Hid (out = sortedS (l.take i)) ∧ out.length ≤ i ∧ St S w0 wr (eOwn 9 1 B out.length d (out.flatMap txc) :: L)) (fun _ iv _ => l.length - (intOf iv).toNat)
  case atStart => exact ⟨0, none, 0, [], rfl, rfl, Nat.zero_le _, Lib.hid (by simp [sortedS]), by simp, h.nilRow _ _⟩
  case round =>
    clear h
    obtain ⟨i, B, d, out, rfl, rfl, hi, Ho, hoi, h⟩ := hrel
    by_cases hil : i < l.length
    · have f1 : (i : Int) < (l.length : Int) := by omega
      have t0 : ((i : Int)).toNat = i := by omega
      obtain ⟨x, hx⟩ : ∃ x, l[i] = x := ⟨_, rfl⟩
      obtain ⟨bA, oA, rfl, _⟩ := (h.sl A l.length c).pos (by omega)
      have hcx : ∀ w, Sl w (some ⟨bA, oA, none⟩) l.length c 1 (l.flatMap txc) → w.cell? ⟨bA, oA + i, none⟩ = some (.string (str x)) := fun w hs => by
        have h5 := hs.elemAt txc_length hil (by omega)
        rw [hx, Nat.mul_one] at h5
        simpa using h5 0 (.string (str x)) rfl
      have Hcx := Lib.hid hcx
      have Ht := Lib.hid (show l.take (i + 1) = l.take i ++ [x] by rw [List.take_succ_eq_append_getElem hil, hx])
      clear hx hcx
      go_wp2_with (first | (refine wl_at 12 rfl ?_; refine wl_reads rfl (ex_load1_at _ _ rfl bA (oA + i) rfl (.string (str x)) (Hcx.out _ (h.sl (some ⟨bA, oA, none⟩) l.length c))) ?_))
      go_loopw [6] (fun kv wr => ∃ k : Nat, kv = .int .i64 (k : Int) ∧ k ≤ out.length ∧ Hid (PlaceS out x k) ∧ St S w0 wr (eOwn 9 1 B out.length d (out.flatMap txc) :: L)) (fun kv _ => out.length - (intOf kv).toNat)
      case atStart => exact ⟨0, rfl, Nat.zero_le _, Lib.hid ⟨Nat.zero_le _, fun j hj h0 => by omega⟩, h⟩
      case round =>
        clear h
        obtain ⟨k, rfl, hk, HP, h⟩ := hrel
        have hdl := (h.sl B out.length d).le
        have hdc : d ≤ 9223372036854775807 := by have := (h.sl B out.length d).cap; simpa [maxLen] using this
        have tk : ((k : Int)).toNat = k := by omega
        by_cases hkn : k < out.length
        · have g1 : decide ((k : Int) < (out.length : Int)) = true := by simp; omega
          have g1n : decide (k < out.length) = true := by simp; omega
          have g2 : (k : Int) < (out.length : Int) := by omega
          obtain ⟨z, hz⟩ : ∃ z, out[k] = z := ⟨_, rfl⟩
          obtain ⟨bB, oB, rfl, _⟩ := (h.sl B out.length d).pos (by omega)
          have hcz : ∀ w, Sl w (some ⟨bB, oB, none⟩) out.length d 1 (out.flatMap txc) → w.cell? ⟨bB, oB + k, none⟩ = some (.string (str z)) := fun w hs => by
            have h5 := hs.elemAt txc_length hkn (by omega)
            rw [hz, Nat.mul_one] at h5
            simpa using h5 0 (.string (str z)) rfl
          have Hcz := Lib.hid hcz
          have Hz := Lib.hid hz
          obtain ⟨B1, hB1⟩ : ∃ B1, leS z x = B1 := ⟨_, rfl⟩
          have hle : (Op.bytesLess (str z).toList (str x).toList || (str z).toList == (str x).toList) = B1 := by rw [str_toList, str_toList]; exact hB1
          clear hz hcz
          cases B1 with
          | true =>
            have Hlt := Lib.hid hB1
            clear hB1
            go_wp2_with (first | (refine wl_at 21 rfl ?_; refine wl_reads rfl (ex_load1_at _ _ rfl bB (oB + k) rfl (.string (str z)) (Hcz.out _ (h.sl (some ⟨bB, oB, none⟩) out.length d))) ?_))
            refine ⟨⟨k + 1, by push_cast; rfl, by omega, Lib.hid ⟨by omega, fun j hj h3 => ?_⟩, h.to⟩, ?_⟩
            · rcases Nat.lt_or_ge j k with h4 | h4
              · exact HP.out.bef j hj h4
              · obtain rfl : j = k := by omega
                rw [Hz.out]
                exact Hlt.out
            · simp only [intOf]
              omega
          | false =>
            have Hins := Lib.hid (insS_at HP.out (fun hh => by rw [Hz.out]; exact hB1))
            clear hB1
            go_upto_region 8 with (first | (refine wl_at 21 rfl ?_; refine wl_reads rfl (ex_load1_at _ _ rfl bB (oB + k) rfl (.string (str z)) (Hcz.out _ (h.sl (some ⟨bB, oB, none⟩) out.length d))) ?_))
            have hk9 : k ≤ out.length := by omega
            have Hln := Lib.hid (show k + (1 + (out.length - k)) = out.length + 1 by omega)
            have Hln2 := Lib.hid (show (out.take k ++ x :: out.drop k).length = out.length + 1 by simp only [List.length_append, List.length_take, List.length_cons, List.length_drop]; omega)
            have Hfl := Lib.hid (show (out.flatMap txc).take (k * 1) ++ ([.string (str x)] ++ (out.flatMap txc).drop (k * 1)) = (out.take k ++ x :: out.drop k).flatMap txc by rw [flat_take txc_length out k hk9, flat_drop txc_length out k hk9, List.flatMap_append, List.flatMap_cons]; rfl)
            have v1 : (k : Int) ≤ (out.length : Int) := by omega
            have v2 : (out.length : Int) ≤ (d : Int) := by omega
            have v3 : (k : Int) ≤ (d : Int) := by omega
            have v4 : k ≤ d := by omega
            have v5 : ¬ (d : Int) < (k : Int) := by omega
            have v6 : (0 : Int) ≤ (k : Int) := by omega
            have hdk : ¬ d = k := by omega
            have htl : ∀ {w}, Sl w (some ⟨bB, oB, none⟩) out.length d 1 (out.flatMap txc) → Sl w (some ⟨bB, oB + k, none⟩) (out.length - k) (d - k) 1 ((out.flatMap txc).drop (k * 1)) := fun hs => by have := hs.drop hk9; rw [if_neg hdk, Option.map_some, add_none] at this; simpa only [Nat.mul_one] using this
            refine wp_region_K 10 (fun w' => St _ _ w' _) (by kernel_rfl) h.drew ?_; replace h := h.drew
            refine wpAnyK_pure 27 (v := ?_) (i := 0) (fuel := 11) rfl rfl (by kernel_rfl) (by kernel_rfl) (by kernel_rfl) (by decide) (fun _ _ _ h => h) (Or.inl ⟨by rfl, fun w _ => ?_⟩) ?_; rotate_left; (go_simp; with_reducible rfl); simp only [Act.put, List.setIfInBounds_toArray, List.set_cons_zero, List.set_cons_succ]
            refine wpAnyK_pure 28 (v := ?_) (i := 1) (fuel := 10) rfl rfl (by kernel_rfl) (by kernel_rfl) (by kernel_rfl) (by decide) (fun _ _ _ h => h) (Or.inl ⟨by rfl, fun w _ => ?_⟩) ?_; rotate_left; (go_simp; with_reducible rfl); simp only [Act.put, List.setIfInBounds_toArray, List.set_cons_zero, List.set_cons_succ]
            refine wpAnyK_pure 29 (v := ?_) (i := 2) (fuel := 9) rfl rfl (by kernel_rfl) (by kernel_rfl) (by kernel_rfl) (by decide) (fun _ _ _ h => h) (Or.inl ⟨by rfl, fun w _ => ?_⟩) ?_; rotate_left; (go_simp; with_reducible rfl); simp only [Act.put, List.setIfInBounds_toArray, List.set_cons_zero, List.set_cons_succ]
            refine wpAnyK_pure 30 (v := (.slice (some ⟨bB, oB, none⟩) k k)) (i := 3) (fuel := 8) rfl rfl (by kernel_rfl) (by kernel_rfl) (by kernel_rfl) (by decide) (fun _ _ _ h => h) (Or.inl ⟨by rfl, fun w _ => (by go_simp)⟩) ?_; simp only [Act.put, List.setIfInBounds_toArray, List.set_cons_zero, List.set_cons_succ]
            refine wpAnyK_pure 31 (v := ?_) (i := 4) (fuel := 7) rfl rfl (by kernel_rfl) (by kernel_rfl) (by kernel_rfl) (by decide) (fun _ _ _ h => h) (Or.inl ⟨by rfl, fun w _ => ?_⟩) ?_; rotate_left; (go_simp; with_reducible rfl); simp only [Act.put, List.setIfInBounds_toArray, List.set_cons_zero, List.set_cons_succ]
            refine wpAnyK_pure 33 (v := ?_) (i := 6) (fuel := 6) rfl rfl (by kernel_rfl) (by kernel_rfl) (by kernel_rfl) (by decide) (fun _ _ _ h => h) (Or.inl ⟨by rfl, fun w _ => ?_⟩) ?_; rotate_left; (go_simp; with_reducible rfl); simp only [Act.put, List.setIfInBounds_toArray, List.set_cons_zero, List.set_cons_succ]
            refine wpAnyK_pure 34 (v := ?_) (i := 7) (fuel := 5) rfl rfl (by kernel_rfl) (by kernel_rfl) (by kernel_rfl) (by decide) (fun _ _ _ h => h) (Or.inl ⟨by rfl, fun w _ => ?_⟩) ?_; rotate_left; (go_simp; with_reducible rfl); simp only [Act.put, List.setIfInBounds_toArray, List.set_cons_zero, List.set_cons_succ]
            refine wpAnyK_pure 35 (v := (.slice (some ⟨bB, oB + k, none⟩) (out.length - k) (d - k))) (i := 8) (fuel := 4) rfl rfl (by kernel_rfl) (by kernel_rfl) (by kernel_rfl) (by decide) (fun _ _ _ h => h) (Or.inl ⟨by rfl, fun w _ => (by go_simp)⟩) ?_; simp only [Act.put, List.setIfInBounds_toArray, List.set_cons_zero, List.set_cons_succ]
            refine wpAnyK_one (i := 5) (fuel := 3) rfl (by kernel_rfl) rfl (fun K hK => ?_)
            refine op_runs (some 32) rfl (ex_slice1t h _ _ rfl (str x) rfl) ?_; clear h; rintro _ w ⟨gy, rfl, h⟩; replace h := h.blkRowK gy 1 1 rfl (by omega); refine hK.out _ _ (fun _ => h.to) ?_; clear hK K
            try simp only [Act.put, List.setIfInBounds_toArray, List.set_cons_zero, List.set_cons_succ]
            refine wpAnyK_one (i := 9) (fuel := 2) rfl (by kernel_rfl) rfl (fun K hK => ?_)
            refine op_runs (some 36) rfl (ex_append h _ _ _ rfl (some ⟨gy, 0, none⟩) rfl (some ⟨bB, oB + k, none⟩) (out.length - k) (d - k) rfl (htl (h.sl (some ⟨bB, oB, none⟩) out.length d)) (fun u hu => txs_one out u (List.mem_of_mem_drop hu)) (by simp [maxLen]; omega) (by omega)) ?_; clear h; rintro _ w ⟨A2, c2, rfl, h⟩; refine hK.out _ _ (fun _ => h.to) ?_; clear hK K
            try simp only [Act.put, List.setIfInBounds_toArray, List.set_cons_zero, List.set_cons_succ]
            refine wpAnyK_one (i := 10) (fuel := 1) rfl (by kernel_rfl) rfl (fun K hK => ?_)
            refine op_runs (some 37) rfl (ex_append (h.capRow (some ⟨bB, oB, none⟩) k hk9) _ _ _ rfl (some ⟨bB, oB, none⟩) rfl A2 (1 + (out.length - k)) c2 rfl (h.sl A2 (1 + (out.length - k)) c2) (fun u hu => (List.mem_append.1 hu).elim (fun hh => txs_one [x] u (by simpa [txc] using hh)) (fun hh => txs_one out u (List.mem_of_mem_drop hh))) (by simp [maxLen]; omega) (by omega)) ?_; clear h; rintro _ w ⟨A3, c3, rfl, h⟩; rw [Hfl.out, Hln.out] at h; refine hK.out _ _ (SJ.past (by kernel_rfl)) ?_; clear hK K
            try simp only [Act.put, List.setIfInBounds_toArray, List.set_cons_zero, List.set_cons_succ]
            refine wpAnyK_pure 3 (v := ?_) (i := 11) (fuel := 0) rfl rfl (by kernel_rfl) (by kernel_rfl) (by kernel_rfl) (by decide) (fun _ _ _ h => h) (Or.inl ⟨by rfl, fun w _ => ?_⟩) ?_; rotate_left; (go_simp; with_reducible rfl); simp only [Act.put, List.setIfInBounds_toArray, List.set_cons_zero, List.set_cons_succ]
            refine wpAnyK_done (by kernel_rfl) ?_
            go_wp2
            refine ⟨⟨i + 1, A3, c3, out.take k ++ x :: out.drop k, by rw [Hln2.out]; first | rfl | (rw [hn0]; done) | (rw [← Hln.out]; done), by push_cast; rfl, by omega, Lib.hid (by rw [Ht.out, sortedS_snoc, ← Ho.out]; exact Hins.out.symm), by rw [Hln2.out]; omega, ?_⟩, ?_⟩
            · rw [Hln2.out]
              exact h.to
            · simp only [intOf]
              omega
        · have hke : k = out.length := by omega
          have g1 : decide ((k : Int) < (out.length : Int)) = false := by simp; omega
          have g1n : decide (k < out.length) = false := by simp; omega
          have Hins := Lib.hid (insS_at HP.out (fun hh => absurd hh hkn))
          go_upto_region 8 with (fail)
          have hk9 : k ≤ out.length := by omega
          have Hln := Lib.hid (show k + (1 + (out.length - k)) = out.length + 1 by omega)
          have Hln2 := Lib.hid (show (out.take k ++ x :: out.drop k).length = out.length + 1 by simp only [List.length_append, List.length_take, List.length_cons, List.length_drop]; omega)
          have Hfl := Lib.hid (show (out.flatMap txc).take (k * 1) ++ ([.string (str x)] ++ (out.flatMap txc).drop (k * 1)) = (out.take k ++ x :: out.drop k).flatMap txc by rw [flat_take txc_length out k hk9, flat_drop txc_length out k hk9, List.flatMap_append, List.flatMap_cons]; rfl)
          have v1 : (k : Int) ≤ (out.length : Int) := by omega
          have v2 : (out.length : Int) ≤ (d : Int) := by omega
          have v3 : (k : Int) ≤ (d : Int) := by omega
          have v4 : k ≤ d := by omega
          have v5 : ¬ (d : Int) < (k : Int) := by omega
          have v6 : (0 : Int) ≤ (k : Int) := by omega
          have Hke := Lib.hid hke
          clear hke
          cases B with
          | none =>
            have hd0 : d = 0 := by
              rcases (h.row none).2 with ⟨_, _, h3⟩ | ⟨g, o, cur, h3, _⟩
              · exact h3
              · cases h3
            have hn0 : out.length = 0 := by omega
            have hk0 : k = 0 := by have := Hke.out; omega
            have htl : ∀ {w}, Sl w none out.length d 1 (out.flatMap txc) → Sl w none (out.length - k) (d - k) 1 ((out.flatMap txc).drop (k * 1)) := fun hs => by have := hs.drop hk9; rwa [if_pos (by omega)] at this
            refine wp_region_K 10 (fun w' => St _ _ w' _) (by kernel_rfl) h.drew ?_; replace h := h.drew
            refine wpAnyK_pure 27 (v := ?_) (i := 0) (fuel := 11) rfl rfl (by kernel_rfl) (by kernel_rfl) (by kernel_rfl) (by decide) (fun _ _ _ h => h) (Or.inl ⟨by rfl, fun w _ => ?_⟩) ?_; rotate_left; (go_simp; with_reducible rfl); simp only [Act.put, List.setIfInBounds_toArray, List.set_cons_zero, List.set_cons_succ]
            refine wpAnyK_pure 28 (v := ?_) (i := 1) (fuel := 10) rfl rfl (by kernel_rfl) (by kernel_rfl) (by kernel_rfl) (by decide) (fun _ _ _ h => h) (Or.inl ⟨by rfl, fun w _ => ?_⟩) ?_; rotate_left; (go_simp; with_reducible rfl); simp only [Act.put, List.setIfInBounds_toArray, List.set_cons_zero, List.set_cons_succ]
            refine wpAnyK_pure 29 (v := ?_) (i := 2) (fuel := 9) rfl rfl (by kernel_rfl) (by kernel_rfl) (by kernel_rfl) (by decide) (fun _ _ _ h => h) (Or.inl ⟨by rfl, fun w _ => ?_⟩) ?_; rotate_left; (go_simp; with_reducible rfl); simp only [Act.put, List.setIfInBounds_toArray, List.set_cons_zero, List.set_cons_succ]
            refine wpAnyK_pure 30 (v := (.slice none k k)) (i := 3) (fuel := 8) rfl rfl (by kernel_rfl) (by kernel_rfl) (by kernel_rfl) (by decide) (fun _ _ _ h => h) (Or.inl ⟨by rfl, fun w _ => (by go_simp)⟩) ?_; simp only [Act.put, List.setIfInBounds_toArray, List.set_cons_zero, List.set_cons_succ]
            refine wpAnyK_pure 31 (v := ?_) (i := 4) (fuel := 7) rfl rfl (by kernel_rfl) (by kernel_rfl) (by kernel_rfl) (by decide) (fun _ _ _ h => h) (Or.inl ⟨by rfl, fun w _ => ?_⟩) ?_; rotate_left; (go_simp; with_reducible rfl); simp only [Act.put, List.setIfInBounds_toArray, List.set_cons_zero, List.set_cons_succ]
            refine wpAnyK_pure 33 (v := ?_) (i := 6) (fuel := 6) rfl rfl (by kernel_rfl) (by kernel_rfl) (by kernel_rfl) (by decide) (fun _ _ _ h => h) (Or.inl ⟨by rfl, fun w _ => ?_⟩) ?_; rotate_left; (go_simp; with_reducible rfl); simp only [Act.put, List.setIfInBounds_toArray, List.set_cons_zero, List.set_cons_succ]
            refine wpAnyK_pure 34 (v := ?_) (i := 7) (fuel := 5) rfl rfl (by kernel_rfl) (by kernel_rfl) (by kernel_rfl) (by decide) (fun _ _ _ h => h) (Or.inl ⟨by rfl, fun w _ => ?_⟩) ?_; rotate_left; (go_simp; with_reducible rfl); simp only [Act.put, List.setIfInBounds_toArray, List.set_cons_zero, List.set_cons_succ]
            refine wpAnyK_pure 35 (v := (.slice none (out.length - k) (d - k))) (i := 8) (fuel := 4) rfl rfl (by kernel_rfl) (by kernel_rfl) (by kernel_rfl) (by decide) (fun _ _ _ h => h) (Or.inl ⟨by rfl, fun w _ => (by go_simp)⟩) ?_; simp only [Act.put, List.setIfInBounds_toArray, List.set_cons_zero, List.set_cons_succ]
            refine wpAnyK_one (i := 5) (fuel := 3) rfl (by kernel_rfl) rfl (fun K hK => ?_)
            refine op_runs (some 32) rfl (ex_slice1t h _ _ rfl (str x) rfl) ?_; clear h; rintro _ w ⟨gy, rfl, h⟩; replace h := h.blkRowK gy 1 1 rfl (by omega); refine hK.out _ _ (fun _ => h.to) ?_; clear hK K
            try simp only [Act.put, List.setIfInBounds_toArray, List.set_cons_zero, List.set_cons_succ]
            refine wpAnyK_one (i := 9) (fuel := 2) rfl (by kernel_rfl) rfl (fun K hK => ?_)
            refine op_runs (some 36) rfl (ex_append h _ _ _ rfl (some ⟨gy, 0, none⟩) rfl none (out.length - k) (d - k) rfl (htl (h.sl none out.length d)) (fun u hu => txs_one out u (List.mem_of_mem_drop hu)) (by simp [maxLen]; omega) (by omega)) ?_; clear h; rintro _ w ⟨A2, c2, rfl, h⟩; refine hK.out _ _ (fun _ => h.to) ?_; clear hK K
            try simp only [Act.put, List.setIfInBounds_toArray, List.set_cons_zero, List.set_cons_succ]
            refine wpAnyK_one (i := 10) (fuel := 1) rfl (by kernel_rfl) rfl (fun K hK => ?_)
            refine op_runs (some 37) rfl (ex_append (h.capRow none k hk9) _ _ _ rfl none rfl A2 (1 + (out.length - k)) c2 rfl (h.sl A2 (1 + (out.length - k)) c2) (fun u hu => (List.mem_append.1 hu).elim (fun hh => txs_one [x] u (by simpa [txc] using hh)) (fun hh => txs_one out u (List.mem_of_mem_drop hh))) (by simp [maxLen]; omega) (by omega)) ?_; clear h; rintro _ w ⟨A3, c3, rfl, h⟩; rw [Hfl.out, Hln.out] at h; refine hK.out _ _ (SJ.past (by kernel_rfl)) ?_; clear hK K
            try simp only [Act.put, List.setIfInBounds_toArray, List.set_cons_zero, List.set_cons_succ]
            refine wpAnyK_pure 3 (v := ?_) (i := 11) (fuel := 0) rfl rfl (by kernel_rfl) (by kernel_rfl) (by kernel_rfl) (by decide) (fun _ _ _ h => h) (Or.inl ⟨by rfl, fun w _ => ?_⟩) ?_; rotate_left; (go_simp; with_reducible rfl); simp only [Act.put, List.setIfInBounds_toArray, List.set_cons_zero, List.set_cons_succ]
            refine wpAnyK_done (by kernel_rfl) ?_
            go_wp2
            refine ⟨⟨i + 1, A3, c3, out.take k ++ x :: out.drop k, by rw [Hln2.out]; first | rfl | (rw [hn0]; done) | (rw [← Hln.out]; done), by push_cast; rfl, by omega, Lib.hid (by rw [Ht.out, sortedS_snoc, ← Ho.out]; exact Hins.out.symm), by rw [Hln2.out]; omega, ?_⟩, ?_⟩
            · rw [Hln2.out]
              exact h.to
            · simp only [intOf]
              omega
          | some a =>
            obtain ⟨bB, oB, sB⟩ := a
            obtain ⟨g', o', hA⟩ : ∃ g o, (some ⟨bB, oB, sB⟩ : Option Addr) = some ⟨g, o, none⟩ := by
              rcases (h.row (some ⟨bB, oB, sB⟩)).2 with ⟨h3, _⟩ | ⟨g, o, cur, h3, _⟩
              · cases h3
              · exact ⟨g, o, h3⟩
            obtain rfl : sB = none := by cases hA; rfl
            clear hA
            by_cases hdk : d = k
            · have htl : ∀ {w}, Sl w (some ⟨bB, oB, none⟩) out.length d 1 (out.flatMap txc) → Sl w (some ⟨bB, oB, none⟩) (out.length - k) (d - k) 1 ((out.flatMap txc).drop (k * 1)) := fun hs => by have := hs.drop hk9; rwa [if_pos hdk] at this
              refine wp_region_K 10 (fun w' => St _ _ w' _) (by kernel_rfl) h.drew ?_; replace h := h.drew
              refine wpAnyK_pure 27 (v := ?_) (i := 0) (fuel := 11) rfl rfl (by kernel_rfl) (by kernel_rfl) (by kernel_rfl) (by decide) (fun _ _ _ h => h) (Or.inl ⟨by rfl, fun w _ => ?_⟩) ?_; rotate_left; (go_simp; with_reducible rfl); simp only [Act.put, List.setIfInBounds_toArray, List.set_cons_zero, List.set_cons_succ]
              refine wpAnyK_pure 28 (v := ?_) (i := 1) (fuel := 10) rfl rfl (by kernel_rfl) (by kernel_rfl) (by kernel_rfl) (by decide) (fun _ _ _ h => h) (Or.inl ⟨by rfl, fun w _ => ?_⟩) ?_; rotate_left; (go_simp; with_reducible rfl); simp only [Act.put, List.setIfInBounds_toArray, List.set_cons_zero, List.set_cons_succ]
              refine wpAnyK_pure 29 (v := ?_) (i := 2) (fuel := 9) rfl rfl (by kernel_rfl) (by kernel_rfl) (by kernel_rfl) (by decide) (fun _ _ _ h => h) (Or.inl ⟨by rfl, fun w _ => ?_⟩) ?_; rotate_left; (go_simp; with_reducible rfl); simp only [Act.put, List.setIfInBounds_toArray, List.set_cons_zero, List.set_cons_succ]
              refine wpAnyK_pure 30 (v := (.slice (some ⟨bB, oB, none⟩) k k)) (i := 3) (fuel := 8) rfl rfl (by kernel_rfl) (by kernel_rfl) (by kernel_rfl) (by decide) (fun _ _ _ h => h) (Or.inl ⟨by rfl, fun w _ => (by go_simp)⟩) ?_; simp only [Act.put, List.setIfInBounds_toArray, List.set_cons_zero, List.set_cons_succ]
              refine wpAnyK_pure 31 (v := ?_) (i := 4) (fuel := 7) rfl rfl (by kernel_rfl) (by kernel_rfl) (by kernel_rfl) (by decide) (fun _ _ _ h => h) (Or.inl ⟨by rfl, fun w _ => ?_⟩) ?_; rotate_left; (go_simp; with_reducible rfl); simp only [Act.put, List.setIfInBounds_toArray, List.set_cons_zero, List.set_cons_succ]
              refine wpAnyK_pure 33 (v := ?_) (i := 6) (fuel := 6) rfl rfl (by kernel_rfl) (by kernel_rfl) (by kernel_rfl) (by decide) (fun _ _ _ h => h) (Or.inl ⟨by rfl, fun w _ => ?_⟩) ?_; rotate_left; (go_simp; with_reducible rfl); simp only [Act.put, List.setIfInBounds_toArray, List.set_cons_zero, List.set_cons_succ]
              refine wpAnyK_pure 34 (v := ?_) (i := 7) (fuel := 5) rfl rfl (by kernel_rfl) (by kernel_rfl) (by kernel_rfl) (by decide) (fun _ _ _ h => h) (Or.inl ⟨by rfl, fun w _ => ?_⟩) ?_; rotate_left; (go_simp; with_reducible rfl); simp only [Act.put, List.setIfInBounds_toArray, List.set_cons_zero, List.set_cons_succ]
              refine wpAnyK_pure 35 (v := (.slice (some ⟨bB, oB, none⟩) (out.length - k) (d - k))) (i := 8) (fuel := 4) rfl rfl (by kernel_rfl) (by kernel_rfl) (by kernel_rfl) (by decide) (fun _ _ _ h => h) (Or.inl ⟨by rfl, fun w _ => (by go_simp)⟩) ?_; simp only [Act.put, List.setIfInBounds_toArray, List.set_cons_zero, List.set_cons_succ]
              refine wpAnyK_one (i := 5) (fuel := 3) rfl (by kernel_rfl) rfl (fun K hK => ?_)
              refine op_runs (some 32) rfl (ex_slice1t h _ _ rfl (str x) rfl) ?_; clear h; rintro _ w ⟨gy, rfl, h⟩; replace h := h.blkRowK gy 1 1 rfl (by omega); refine hK.out _ _ (fun _ => h.to) ?_; clear hK K
              try simp only [Act.put, List.setIfInBounds_toArray, List.set_cons_zero, List.set_cons_succ]
              refine wpAnyK_one (i := 9) (fuel := 2) rfl (by kernel_rfl) rfl (fun K hK => ?_)
              refine op_runs (some 36) rfl (ex_append h _ _ _ rfl (some ⟨gy, 0, none⟩) rfl (some ⟨bB, oB, none⟩) (out.length - k) (d - k) rfl (htl (h.sl (some ⟨bB, oB, none⟩) out.length d)) (fun u hu => txs_one out u (List.mem_of_mem_drop hu)) (by simp [maxLen]; omega) (by omega)) ?_; clear h; rintro _ w ⟨A2, c2, rfl, h⟩; refine hK.out _ _ (fun _ => h.to) ?_; clear hK K
              try simp only [Act.put, List.setIfInBounds_toArray, List.set_cons_zero, List.set_cons_succ]
              refine wpAnyK_one (i := 10) (fuel := 1) rfl (by kernel_rfl) rfl (fun K hK => ?_)
              refine op_runs (some 37) rfl (ex_append (h.capRow (some ⟨bB, oB, none⟩) k hk9) _ _ _ rfl (some ⟨bB, oB, none⟩) rfl A2 (1 + (out.length - k)) c2 rfl (h.sl A2 (1 + (out.length - k)) c2) (fun u hu => (List.mem_append.1 hu).elim (fun hh => txs_one [x] u (by simpa [txc] using hh)) (fun hh => txs_one out u (List.mem_of_mem_drop hh))) (by simp [maxLen]; omega) (by omega)) ?_; clear h; rintro _ w ⟨A3, c3, rfl, h⟩; rw [Hfl.out, Hln.out] at h; refine hK.out _ _ (SJ.past (by kernel_rfl)) ?_; clear hK K
              try simp only [Act.put, List.setIfInBounds_toArray, List.set_cons_zero, List.set_cons_succ]
              refine wpAnyK_pure 3 (v := ?_) (i := 11) (fuel := 0) rfl rfl (by kernel_rfl) (by kernel_rfl) (by kernel_rfl) (by decide) (fun _ _ _ h => h) (Or.inl ⟨by rfl, fun w _ => ?_⟩) ?_; rotate_left; (go_simp; with_reducible rfl); simp only [Act.put, List.setIfInBounds_toArray, List.set_cons_zero, List.set_cons_succ]
              refine wpAnyK_done (by kernel_rfl) ?_
              go_wp2
              refine ⟨⟨i + 1, A3, c3, out.take k ++ x :: out.drop k, by rw [Hln2.out]; first | rfl | (rw [hn0]; done) | (rw [← Hln.out]; done), by push_cast; rfl, by omega, Lib.hid (by rw [Ht.out, sortedS_snoc, ← Ho.out]; exact Hins.out.symm), by rw [Hln2.out]; omega, ?_⟩, ?_⟩
              · rw [Hln2.out]
                exact h.to
              · simp only [intOf]
                omega
            · have htl : ∀ {w}, Sl w (some ⟨bB, oB, none⟩) out.length d 1 (out.flatMap txc) → Sl w (some ⟨bB, oB + k, none⟩) (out.length - k) (d - k) 1 ((out.flatMap txc).drop (k * 1)) := fun hs => by have := hs.drop hk9; rw [if_neg hdk, Option.map_some, add_none] at this; simpa only [Nat.mul_one] using this
              refine wp_region_K 10 (fun w' => St _ _ w' _) (by kernel_rfl) h.drew ?_; replace h := h.drew
              refine wpAnyK_pure 27 (v := ?_) (i := 0) (fuel := 11) rfl rfl (by kernel_rfl) (by kernel_rfl) (by kernel_rfl) (by decide) (fun _ _ _ h => h) (Or.inl ⟨by rfl, fun w _ => ?_⟩) ?_; rotate_left; (go_simp; with_reducible rfl); simp only [Act.put, List.setIfInBounds_toArray, List.set_cons_zero, List.set_cons_succ]
              refine wpAnyK_pure 28 (v := ?_) (i := 1) (fuel := 10) rfl rfl (by kernel_rfl) (by kernel_rfl) (by kernel_rfl) (by decide) (fun _ _ _ h => h) (Or.inl ⟨by rfl, fun w _ => ?_⟩) ?_; rotate_left; (go_simp; with_reducible rfl); simp only [Act.put, List.setIfInBounds_toArray, List.set_cons_zero, List.set_cons_succ]
              refine wpAnyK_pure 29 (v := ?_) (i := 2) (fuel := 9) rfl rfl (by kernel_rfl) (by kernel_rfl) (by kernel_rfl) (by decide) (fun _ _ _ h => h) (Or.inl ⟨by rfl, fun w _ => ?_⟩) ?_; rotate_left; (go_simp; with_reducible rfl); simp only [Act.put, List.setIfInBounds_toArray, List.set_cons_zero, List.set_cons_succ]
              refine wpAnyK_pure 30 (v := (.slice (some ⟨bB, oB, none⟩) k k)) (i := 3) (fuel := 8) rfl rfl (by kernel_rfl) (by kernel_rfl) (by kernel_rfl) (by decide) (fun _ _ _ h => h) (Or.inl ⟨by rfl, fun w _ => (by go_simp)⟩) ?_; simp only [Act.put, List.setIfInBounds_toArray, List.set_cons_zero, List.set_cons_succ]
              refine wpAnyK_pure 31 (v := ?_) (i := 4) (fuel := 7) rfl rfl (by kernel_rfl) (by kernel_rfl) (by kernel_rfl) (by decide) (fun _ _ _ h => h) (Or.inl ⟨by rfl, fun w _ => ?_⟩) ?_; rotate_left; (go_simp; with_reducible rfl); simp only [Act.put, List.setIfInBounds_toArray, List.set_cons_zero, List.set_cons_succ]
              refine wpAnyK_pure 33 (v := ?_) (i := 6) (fuel := 6) rfl rfl (by kernel_rfl) (by kernel_rfl) (by kernel_rfl) (by decide) (fun _ _ _ h => h) (Or.inl ⟨by rfl, fun w _ => ?_⟩) ?_; rotate_left; (go_simp; with_reducible rfl); simp only [Act.put, List.setIfInBounds_toArray, List.set_cons_zero, List.set_cons_succ]
              refine wpAnyK_pure 34 (v := ?_) (i := 7) (fuel := 5) rfl rfl (by kernel_rfl) (by kernel_rfl) (by kernel_rfl) (by decide) (fun _ _ _ h => h) (Or.inl ⟨by rfl, fun w _ => ?_⟩) ?_; rotate_left; (go_simp; with_reducible rfl); simp only [Act.put, List.setIfInBounds_toArray, List.set_cons_zero, List.set_cons_succ]
              refine wpAnyK_pure 35 (v := (.slice (some ⟨bB, oB + k, none⟩) (out.length - k) (d - k))) (i := 8) (fuel := 4) rfl rfl (by kernel_rfl) (by kernel_rfl) (by kernel_rfl) (by decide) (fun _ _ _ h => h) (Or.inl ⟨by rfl, fun w _ => (by go_simp)⟩) ?_; simp only [Act.put, List.setIfInBounds_toArray, List.set_cons_zero, List.set_cons_succ]
              refine wpAnyK_one (i := 5) (fuel := 3) rfl (by kernel_rfl) rfl (fun K hK => ?_)
              refine op_runs (some 32) rfl (ex_slice1t h _ _ rfl (str x) rfl) ?_; clear h; rintro _ w ⟨gy, rfl, h⟩; replace h := h.blkRowK gy 1 1 rfl (by omega); refine hK.out _ _ (fun _ => h.to) ?_; clear hK K
              try simp only [Act.put, List.setIfInBounds_toArray, List.set_cons_zero, List.set_cons_succ]
              refine wpAnyK_one (i := 9) (fuel := 2) rfl (by kernel_rfl) rfl (fun K hK => ?_)
              refine op_runs (some 36) rfl (ex_append h _ _ _ rfl (some ⟨gy, 0, none⟩) rfl (some ⟨bB, oB + k, none⟩) (out.length - k) (d - k) rfl (htl (h.sl (some ⟨bB, oB, none⟩) out.length d)) (fun u hu => txs_one out u (List.mem_of_mem_drop hu)) (by simp [maxLen]; omega) (by omega)) ?_; clear h; rintro _ w ⟨A2, c2, rfl, h⟩; refine hK.out _ _ (fun _ => h.to) ?_; clear hK K
              try simp only [Act.put, List.setIfInBounds_toArray, List.set_cons_zero, List.set_cons_succ]
              refine wpAnyK_one (i := 10) (fuel := 1) rfl (by kernel_rfl) rfl (fun K hK => ?_)
              refine op_runs (some 37) rfl (ex_append (h.capRow (some ⟨bB, oB, none⟩) k hk9) _ _ _ rfl (some ⟨bB, oB, none⟩) rfl A2 (1 + (out.length - k)) c2 rfl (h.sl A2 (1 + (out.length - k)) c2) (fun u hu => (List.mem_append.1 hu).elim (fun hh => txs_one [x] u (by simpa [txc] using hh)) (fun hh => txs_one out u (List.mem_of_mem_drop hh))) (by simp [maxLen]; omega) (by omega)) ?_; clear h; rintro _ w ⟨A3, c3, rfl, h⟩; rw [Hfl.out, Hln.out] at h; refine hK.out _ _ (SJ.past (by kernel_rfl)) ?_; clear hK K
              try simp only [Act.put, List.setIfInBounds_toArray, List.set_cons_zero, List.set_cons_succ]
              refine wpAnyK_pure 3 (v := ?_) (i := 11) (fuel := 0) rfl rfl (by kernel_rfl) (by kernel_rfl) (by kernel_rfl) (by decide) (fun _ _ _ h => h) (Or.inl ⟨by rfl, fun w _ => ?_⟩) ?_; rotate_left; (go_simp; with_reducible rfl); simp only [Act.put, List.setIfInBounds_toArray, List.set_cons_zero, List.set_cons_succ]
              refine wpAnyK_done (by kernel_rfl) ?_
              go_wp2
              refine ⟨⟨i + 1, A3, c3, out.take k ++ x :: out.drop k, by rw [Hln2.out]; first | rfl | (rw [hn0]; done) | (rw [← Hln.out]; done), by push_cast; rfl, by omega, Lib.hid (by rw [Ht.out, sortedS_snoc, ← Ho.out]; exact Hins.out.symm), by rw [Hln2.out]; omega, ?_⟩, ?_⟩
              · rw [Hln2.out]
                exact h.to
              · simp only [intOf]
                omega
    · have hin : i = l.length := by omega
      have hkk : ¬ ((i : Int) < (l.length : Int)) := by omega
      have hfin := Ho.out
      rw [hin, List.take_length] at hfin
      have Hfin := Lib.hid hfin
      clear hfin hin
      go_wp2
      go_ret
      rw [← Hfin.out]
      exact ⟨B, d, rfl, h⟩
end Go.Proofs.Ytnokgejmlpmgfaa
