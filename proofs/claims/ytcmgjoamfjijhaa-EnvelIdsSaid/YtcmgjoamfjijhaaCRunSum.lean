/- A sum in pieces: the sum so far. -/
import Derived.Test.YtcmgjoamfjijhaaCRun
namespace Go.Proofs.Ytcmgjoamfjijhaa
open Go.RowKit
set_option linter.unusedVariables false
set_option linter.unusedSimpArgs false

theorem foldM_take (l : List UInt8) : ∀ k, k ≤ (fullM l).length / 64 → foldM ((blocksM l).take k) = hashN (fullM l) k
  | 0, _ => rfl
  | k + 1, h => by rw [blocksM_take (by omega), foldM_snoc, foldM_take l k (by omega), hashN_succ, chunk64_val (by omega)]
theorem sumM_hash (l : List UInt8) : sumM l = toldM (hashN (fullM l) ((fullM l).length / 64)) := by
  rw [sumM, ← foldM_take l _ (Nat.le_refl _), List.take_of_length_le (by rw [blocksM_length]; exact Nat.le_refl _)]

set_option maxRecDepth 100000 in
set_option maxHeartbeats 1000000 in
theorem rsum_code {S : Nat → Prop} {w0 w : World} {L F : List Ent} {g : Nat} {A : Option Addr} {n c : Nat} {all : List UInt8} (h : St S w0 w L) [k : SlotAt L g (eRun g A n c all) F] (hm : all.length ≤ 100000000) :
    Calls Try.prog 71 #[.pointer (some ⟨g, 0, none⟩)] w fun e w' => e = .returned (.agg (u8s (sumM all)).toArray) ∧ St S w0 w' (eRun g A n c all :: F) := by
  replace h := (h.at_ g).unstar
  have hn := (h.sl A n c).n_eq
  rw [List.length_drop] at hn
  have Hn := Lib.hid hn
  have hnb : n ≤ all.length := by omega
  have hlt : all.length - 64 * (all.length / 64) < 64 := by omega
  clear hn
  have tr := True.intro
  go_enter Try.func71, Try.ntmps71
  go_wp2_with (first
    | (clear tr; refine wl_runs rfl (ex_alloc h 49 rfl) ?_; clear h; rintro _ w ⟨gr, rfl, h⟩)
    | (refine wl_runs rfl (ex_alloc h 131 rfl) ?_; clear h; rintro _ w ⟨gh, rfl, h⟩)
    | (refine wl_reads rfl (ex_loadv h _ _ rfl _ _ rfl) ?_) | (refine wl_runs rfl (ex_store1i h _ _ _ rfl _ _ rfl _ _ rfl) ?_; clear h; rintro _ w ⟨rfl, h⟩; try dsimp only [Act.put]) | (refine wl_runs rfl (ex_store1s h _ _ _ rfl _ _ rfl _ _ _ rfl) ?_; clear h; rintro _ w ⟨rfl, h⟩; try dsimp only [Act.put]) | (refine wl_runs rfl (ex_store1b h _ _ _ rfl _ _ rfl _ rfl) ?_; clear h; rintro _ w ⟨rfl, h⟩; try dsimp only [Act.put]) | (refine wl_runs rfl (ex_store1t h _ _ _ rfl _ _ rfl _ rfl) ?_; clear h; rintro _ w ⟨rfl, h⟩; try dsimp only [Act.put]) | (refine wl_runs rfl (ex_store1p h _ _ _ rfl _ _ rfl _ rfl) ?_; clear h; rintro _ w ⟨rfl, h⟩; try dsimp only [Act.put]) | (refine wl_runs rfl (ex_store1m h _ _ _ rfl _ _ rfl _ rfl) ?_; clear h; rintro _ w ⟨rfl, h⟩; try dsimp only [Act.put]) | (refine wl_runs rfl (ex_store h _ _ _ rfl _ _ rfl _ rfl) ?_; clear h; rintro _ w ⟨rfl, h⟩; try dsimp only [Act.put]) | (refine wl_runs rfl (ex_alloc h _ rfl) ?_; clear h; rintro _ w ⟨g, rfl, h⟩) | (refine wl_runs rfl (ex_box h _ _ rfl _ rfl) ?_; clear h; rintro _ w ⟨g, rfl, h⟩) | (refine wl_runs rfl (ex_box1i h _ _ rfl _ _ rfl) ?_; clear h; rintro _ w ⟨g, rfl, h⟩) | (refine wl_runs rfl (ex_box1s h _ _ rfl _ _ _ rfl) ?_; clear h; rintro _ w ⟨g, rfl, h⟩) | (refine wl_runs rfl (ex_box1b h _ _ rfl _ rfl) ?_; clear h; rintro _ w ⟨g, rfl, h⟩) | (refine wl_runs rfl (ex_box1t h _ _ rfl _ rfl) ?_; clear h; rintro _ w ⟨g, rfl, h⟩) | (refine wl_runs rfl (ex_box1p h _ _ rfl _ rfl) ?_; clear h; rintro _ w ⟨g, rfl, h⟩) | (refine wl_runs rfl (ex_box1m h _ _ rfl _ rfl) ?_; clear h; rintro _ w ⟨g, rfl, h⟩) | (refine wl_runs rfl (ex_slice1 h _ _ rfl _ rfl) ?_; clear h; rintro _ w ⟨g, rfl, h⟩) | (refine wl_runs rfl (ex_slice1i h _ _ rfl _ _ rfl) ?_; clear h; rintro _ w ⟨g, rfl, h⟩) | (refine wl_runs rfl (ex_slice1s h _ _ rfl _ _ _ rfl) ?_; clear h; rintro _ w ⟨g, rfl, h⟩) | (refine wl_runs rfl (ex_slice1b h _ _ rfl _ rfl) ?_; clear h; rintro _ w ⟨g, rfl, h⟩) | (refine wl_runs rfl (ex_slice1t h _ _ rfl _ rfl) ?_; clear h; rintro _ w ⟨g, rfl, h⟩) | (refine wl_runs rfl (ex_slice1p h _ _ rfl _ rfl) ?_; clear h; rintro _ w ⟨g, rfl, h⟩) | (refine wl_runs rfl (ex_slice1m h _ _ rfl _ rfl) ?_; clear h; rintro _ w ⟨g, rfl, h⟩) | (refine wl_reads rfl (ex_lit0 _ rfl) ?_))
  refine wp_region_K 12 (fun w' => St _ _ w' _) (by kernel_rfl) h.drew ?_; replace h := h.drew
  refine wpAnyK_pure 20 (v := ?_) (i := 0) (fuel := 11) rfl rfl (by kernel_rfl) (by kernel_rfl) (by kernel_rfl) (by decide) (fun _ _ _ h => h) (Or.inl ⟨by rfl, fun w _ => ?_⟩) ?_; rotate_left; (go_simp; with_reducible rfl); simp only [Act.put, List.setIfInBounds_toArray, List.set_cons_zero, List.set_cons_succ]
  refine wpAnyK_pure 21 (v := ?_) (i := 1) (fuel := 10) rfl rfl (by kernel_rfl) (by kernel_rfl) (by kernel_rfl) (by decide) (fun _ _ _ h => h) (Or.inl ⟨by rfl, fun w _ => ?_⟩) ?_; rotate_left; (go_simp; with_reducible rfl); simp only [Act.put, List.setIfInBounds_toArray, List.set_cons_zero, List.set_cons_succ]
  refine wpAnyK_pure 22 (v := ?_) (i := 2) (fuel := 9) rfl rfl (by kernel_rfl) (by kernel_rfl) (by kernel_rfl) (by decide) (fun _ _ _ h => h) (Or.inl ⟨by rfl, fun w _ => ?_⟩) ?_; rotate_left; (go_simp; with_reducible rfl); simp only [Act.put, List.setIfInBounds_toArray, List.set_cons_zero, List.set_cons_succ]
  refine wpAnyK_load 23 (i := 3) (fuel := 8) rfl rfl (by kernel_rfl) (by kernel_rfl) (by kernel_rfl) (.inr (by decide)) (by decide) (fun _ _ _ h => h) rfl (fun w h => ex_load1 h _ _ rfl _ _ rfl) ?_; simp only [Act.put, List.setIfInBounds_toArray, List.set_cons_zero, List.set_cons_succ]
  refine wpAnyK_pure 25 (v := ?_) (i := 5) (fuel := 7) rfl rfl (by kernel_rfl) (by kernel_rfl) (by kernel_rfl) (by decide) (fun _ _ _ h => h) (Or.inl ⟨by rfl, fun w _ => ?_⟩) ?_; rotate_left; (go_simp; with_reducible rfl); simp only [Act.put, List.setIfInBounds_toArray, List.set_cons_zero, List.set_cons_succ]
  refine wpAnyK_pure 26 (v := ?_) (i := 6) (fuel := 6) rfl rfl (by kernel_rfl) (by kernel_rfl) (by kernel_rfl) (by decide) (fun _ _ _ h => h) (Or.inl ⟨by rfl, fun w _ => ?_⟩) ?_; rotate_left; (go_simp; with_reducible rfl); simp only [Act.put, List.setIfInBounds_toArray, List.set_cons_zero, List.set_cons_succ]
  refine wpAnyK_pure 27 (v := ?_) (i := 7) (fuel := 5) rfl rfl (by kernel_rfl) (by kernel_rfl) (by kernel_rfl) (by decide) (fun _ _ _ h => h) (Or.inl ⟨by rfl, fun w _ => ?_⟩) ?_; rotate_left; (go_simp; with_reducible rfl); simp only [Act.put, List.setIfInBounds_toArray, List.set_cons_zero, List.set_cons_succ]
  refine wpAnyK_load 28 (i := 8) (fuel := 4) rfl rfl (by kernel_rfl) (by kernel_rfl) (by kernel_rfl) (.inr (by decide)) (by decide) (fun _ _ _ h => h) rfl (fun w h => ex_load1 h _ _ rfl _ _ rfl) ?_; simp only [Act.put, List.setIfInBounds_toArray, List.set_cons_zero, List.set_cons_succ]
  refine wpAnyK_one (i := 4) (fuel := 3) rfl (by kernel_rfl) rfl (fun K hK => ?_)
  refine op_runs (some 24) rfl (ex_append_nil h _ _ _ rfl rfl A n c rfl (h.sl A n c) (u8s_one _) (by simp [maxLen]; omega) (by omega)) ?_; clear h; rintro _ w ⟨A1, c1, rfl, h⟩; refine hK.out _ _ (fun _ => h.to) ?_; clear hK K
  try simp only [Act.put, List.setIfInBounds_toArray, List.set_cons_zero, List.set_cons_succ]
  refine wpAnyK_one (i := 9) (fuel := 2) rfl (by kernel_rfl) rfl (fun K hK => ?_)
  (go_simp; go_wp2_with (go_at_call 94; refine (tail_code (n := all.length) (by omega)).mono ?_; rintro e w ⟨A2, k2, c2, rfl, hown, hnew, hs⟩; have hk2 := hown.sl.n_eq; rw [tailM_length] at hk2; have hk2b : k2 ≤ 100 := (by have : zerosN all.length < 64 := Nat.mod_lt _ (by omega); omega); have Hk2 := Lib.hid hk2; clear hk2; replace h := h.add hs (eOwn 5 1 A2 k2 c2 _) hown.tl hnew (fun _ h => h); clear hown)); refine hK.out _ _ (fun _ => h.to) ?_; clear hK K
  try simp only [Act.put, List.setIfInBounds_toArray, List.set_cons_zero, List.set_cons_succ]
  refine wpAnyK_one (i := 10) (fuel := 1) rfl (by kernel_rfl) rfl (fun K hK => ?_)
  refine op_runs (some 30) rfl (ex_append h _ _ _ rfl A1 rfl A2 k2 c2 rfl (h.sl A2 k2 c2) (u8s_one _) (by simp [maxLen]; omega) (by omega)) ?_; clear h; rintro _ w ⟨A3, c3, rfl, h⟩; refine hK.out _ _ (fun _ => h.to) ?_; clear hK K
  try simp only [Act.put, List.setIfInBounds_toArray, List.set_cons_zero, List.set_cons_succ]
  refine wpAnyK_pure 4 (v := ?_) (i := 11) (fuel := 0) rfl rfl (by kernel_rfl) (by kernel_rfl) (by kernel_rfl) (by decide) (fun _ _ _ h => h) (Or.inl ⟨by rfl, fun w _ => ?_⟩) ?_; rotate_left; (go_simp; with_reducible rfl); simp only [Act.put, List.setIfInBounds_toArray, List.set_cons_zero, List.set_cons_succ]
  refine wpAnyK_done (by kernel_rfl) ?_
  obtain ⟨X, hX⟩ : ∃ X, fullM all = X := ⟨_, rfl⟩
  obtain ⟨q, hq⟩ : ∃ q, all.length / 64 = q := ⟨_, rfl⟩
  have hrow : u8s (all.drop (64 * (all.length / 64))) ++ u8s (tailM all.length) = u8s (X.drop (64 * q)) := by
    rw [← hX, fullM, ← hq, List.drop_append_of_le_length (by omega), ← u8s_append]
  have hash : hashN all (all.length / 64) = hashN X q := by rw [← hX, fullM, hashN_append (by omega), hq]
  have hXl : X.length = all.length + 9 + zerosN all.length := by rw [← hX, fullM_length]
  have hX64 : X.length % 64 = 0 := by rw [← hX]; exact fullM_mod all
  have hsum : sumM all = toldM (hashN X (X.length / 64)) := by rw [sumM_hash, hX]
  obtain ⟨r, hr⟩ : ∃ r, n + k2 = r := ⟨_, rfl⟩
  have hrX : X.length = 64 * q + r := by have := Hn.out; have := Hk2.out; omega
  have hrb : r ≤ 200000000 := by omega
  have h3 : St S w0 w (eOwn 5 1 A3 r c3 (u8s (X.drop (64 * q))) :: eBlk gh 131 (w32s (hashN X (q + 0))) :: eBlk gr 49 (u8s (zeros 32)) :: eRun g A n c all :: F) := by
    rw [hrow, hr, hash] at h
    rw [← hash] at h
    rw [Nat.add_zero, ← hash]
    have h4 : St S w0 w (eBlk g 158 (c_sha_Running (w32s (hashN all (all.length / 64))) (.slice A n c) (.int .i64 (all.length : Int)) (.bool true)) :: eOwn 5 1 A n c (u8s (all.drop (64 * (all.length / 64)))) :: eOwn 5 1 A3 r c3 (u8s (X.drop (64 * q))) :: eBlk gh 131 (w32s (hashN all (all.length / 64))) :: eBlk gr 49 (u8s (zeros 32)) :: F) := h.to
    have h5 : St S w0 w (eRun g A n c all :: eOwn 5 1 A3 r c3 (u8s (X.drop (64 * q))) :: eBlk gh 131 (w32s (hashN all (all.length / 64))) :: eBlk gr 49 (u8s (zeros 32)) :: F) := h4.star
    exact h5.to
  have HrX := Lib.hid hrX
  have HX64 := Lib.hid hX64
  have Hsum := Lib.hid hsum
  have HX := Lib.hid hX
  rw [hr]
  clear h hX hq hrow hash hXl hX64 hsum hr hrX Hn Hk2 hnew hs hm hnb hlt hk2b
  go_wp2
  go_loopw [5] (fun x wr => ∃ j : Nat, x = .int .i64 (64 * (j : Int)) ∧ 64 * j ≤ r ∧ St S w0 wr (eOwn 5 1 A3 r c3 (u8s (X.drop (64 * q))) :: eBlk gh 131 (w32s (hashN X (q + j))) :: eBlk gr 49 (u8s (zeros 32)) :: eRun g A n c all :: F)) (fun x _ => r - (intOf x).toNat)
  case atStart => exact ⟨0, rfl, by omega, h3⟩
  case round =>
    clear h3
    obtain ⟨j, rfl, hj, h⟩ := hrel
    by_cases hlt : 64 * j < r
    · have h64 : 64 * j + 64 ≤ r := by have := HrX.out; have := HX64.out; omega
      obtain ⟨b2, off, rfl, _⟩ := (h.sl A3 r c3).pos (by omega)
      have hcap := (h.sl (some ⟨b2, off, none⟩) r c3).le
      have hcc : ∀ {w L}, St S w0 w (eOwn 5 1 (some ⟨b2, off, none⟩) r c3 (u8s (X.drop (64 * q))) :: L) → Cells w b2 (off + 64 * j) (u8s (chunkM X (q + j))) := fun h => by
        have := (h.sl (some ⟨b2, off, none⟩) r c3).cut (i := 64 * j) (j := 64 * j + 64) (m := c3) (by omega) h64 (Nat.le_refl _) (by omega)
        rw [if_neg (by omega), Nat.mul_one, u8s_drop, List.drop_drop, Nat.add_sub_cancel_left, Nat.mul_one, u8s_take, ← Nat.mul_add, Option.map_some, add_none] at this
        exact this.cells rfl
      have hcl : (chunkM X (q + j)).length = 64 := chunkM_length (by have := HrX.out; omega)
      have Hcl := Lib.hid hcl
      clear hcl
      have f1 : (0 : Int) ≤ 64 * (j : Int) := by omega
      have f2 : 64 * (j : Int) ≤ (r : Int) := by omega
      have f3 : (64 * (j : Int)).toNat = 64 * j := by omega
      have f4 : 64 * (j : Int) < (r : Int) := by omega
      have f5 : 64 ≤ r - 64 * j := by omega
      have f6 : ¬ c3 = 64 * j := by omega
      have hat : ∀ W', (Instr.arrayAt 120 (.slice (some ⟨b2, off + 64 * j, none⟩) (r - 64 * j) (c3 - 64 * j))).run Try.prog W' = .ok (.pointer (some ⟨b2, off + 64 * j, none⟩)) W' := fun W' => run_arrayAt _ _ _ 64 _ _ _ Try.underlying120 f5
      go_wp2_with (first
        | (refine wl_reads rfl (ex_loadv h _ _ rfl _ _ rfl) ?_) | (refine wl_runs rfl (ex_store1i h _ _ _ rfl _ _ rfl _ _ rfl) ?_; clear h; rintro _ w ⟨rfl, h⟩; try dsimp only [Act.put]) | (refine wl_runs rfl (ex_store1s h _ _ _ rfl _ _ rfl _ _ _ rfl) ?_; clear h; rintro _ w ⟨rfl, h⟩; try dsimp only [Act.put]) | (refine wl_runs rfl (ex_store1b h _ _ _ rfl _ _ rfl _ rfl) ?_; clear h; rintro _ w ⟨rfl, h⟩; try dsimp only [Act.put]) | (refine wl_runs rfl (ex_store1t h _ _ _ rfl _ _ rfl _ rfl) ?_; clear h; rintro _ w ⟨rfl, h⟩; try dsimp only [Act.put]) | (refine wl_runs rfl (ex_store1p h _ _ _ rfl _ _ rfl _ rfl) ?_; clear h; rintro _ w ⟨rfl, h⟩; try dsimp only [Act.put]) | (refine wl_runs rfl (ex_store1m h _ _ _ rfl _ _ rfl _ rfl) ?_; clear h; rintro _ w ⟨rfl, h⟩; try dsimp only [Act.put]) | (refine wl_runs rfl (ex_store h _ _ _ rfl _ _ rfl _ rfl) ?_; clear h; rintro _ w ⟨rfl, h⟩; try dsimp only [Act.put]) | (refine wl_runs rfl (ex_alloc h _ rfl) ?_; clear h; rintro _ w ⟨g, rfl, h⟩) | (refine wl_runs rfl (ex_box h _ _ rfl _ rfl) ?_; clear h; rintro _ w ⟨g, rfl, h⟩) | (refine wl_runs rfl (ex_box1i h _ _ rfl _ _ rfl) ?_; clear h; rintro _ w ⟨g, rfl, h⟩) | (refine wl_runs rfl (ex_box1s h _ _ rfl _ _ _ rfl) ?_; clear h; rintro _ w ⟨g, rfl, h⟩) | (refine wl_runs rfl (ex_box1b h _ _ rfl _ rfl) ?_; clear h; rintro _ w ⟨g, rfl, h⟩) | (refine wl_runs rfl (ex_box1t h _ _ rfl _ rfl) ?_; clear h; rintro _ w ⟨g, rfl, h⟩) | (refine wl_runs rfl (ex_box1p h _ _ rfl _ rfl) ?_; clear h; rintro _ w ⟨g, rfl, h⟩) | (refine wl_runs rfl (ex_box1m h _ _ rfl _ rfl) ?_; clear h; rintro _ w ⟨g, rfl, h⟩) | (refine wl_runs rfl (ex_slice1 h _ _ rfl _ rfl) ?_; clear h; rintro _ w ⟨g, rfl, h⟩) | (refine wl_runs rfl (ex_slice1i h _ _ rfl _ _ rfl) ?_; clear h; rintro _ w ⟨g, rfl, h⟩) | (refine wl_runs rfl (ex_slice1s h _ _ rfl _ _ _ rfl) ?_; clear h; rintro _ w ⟨g, rfl, h⟩) | (refine wl_runs rfl (ex_slice1b h _ _ rfl _ rfl) ?_; clear h; rintro _ w ⟨g, rfl, h⟩) | (refine wl_runs rfl (ex_slice1t h _ _ rfl _ rfl) ?_; clear h; rintro _ w ⟨g, rfl, h⟩) | (refine wl_runs rfl (ex_slice1p h _ _ rfl _ rfl) ?_; clear h; rintro _ w ⟨g, rfl, h⟩) | (refine wl_runs rfl (ex_slice1m h _ _ rfl _ rfl) ?_; clear h; rintro _ w ⟨g, rfl, h⟩) | (refine wl_reads rfl (ex_lit0 _ rfl) ?_))
      refine wp_region_K 7 (fun w' => St _ _ w' _) (by kernel_rfl) h.drew ?_; replace h := h.drew
      refine wpAnyK_load 37 (i := 0) (fuel := 7) rfl rfl (by kernel_rfl) (by kernel_rfl) (by kernel_rfl) (.inl (by kernel_rfl)) (by decide) (fun _ _ _ h => h) rfl (fun w h => ex_load h _ _ rfl _ _ rfl) ?_; simp only [Act.put, List.setIfInBounds_toArray, List.set_cons_zero, List.set_cons_succ]
      refine wpAnyK_pure 38 (v := ?_) (i := 1) (fuel := 6) rfl rfl (by kernel_rfl) (by kernel_rfl) (by kernel_rfl) (by decide) (fun _ _ _ h => h) (Or.inl ⟨by rfl, fun w _ => ?_⟩) ?_; rotate_left; (go_simp; with_reducible rfl); simp only [Act.put, List.setIfInBounds_toArray, List.set_cons_zero, List.set_cons_succ]
      refine wpAnyK_pure 39 (v := ?_) (i := 2) (fuel := 5) rfl rfl (by kernel_rfl) (by kernel_rfl) (by kernel_rfl) (by decide) (fun _ _ _ h => h) (Or.inl ⟨by rfl, fun w _ => ?_⟩) ?_; rotate_left; (go_simp; with_reducible rfl); simp only [Act.put, List.setIfInBounds_toArray, List.set_cons_zero, List.set_cons_succ]
      refine wpAnyK_pure 40 (v := ?_) (i := 3) (fuel := 4) rfl rfl (by kernel_rfl) (by kernel_rfl) (by kernel_rfl) (by decide) (fun _ _ _ h => h) (Or.inl ⟨by rfl, fun w _ => ?_⟩) ?_; rotate_left; (go_simp; with_reducible rfl); simp only [Act.put, List.setIfInBounds_toArray, List.set_cons_zero, List.set_cons_succ]
      refine wpAnyK_pure 41 (v := ?_) (i := 4) (fuel := 3) rfl rfl (by kernel_rfl) (by kernel_rfl) (by kernel_rfl) (by decide) (fun _ _ _ h => h) (Or.inl ⟨by rfl, fun w _ => ?_⟩) ?_; rotate_left; (go_simp; with_reducible rfl); simp only [Act.put, List.setIfInBounds_toArray, List.set_cons_zero, List.set_cons_succ]
      refine wpAnyK_load 42 (i := 5) (fuel := 2) rfl rfl (by kernel_rfl) (by kernel_rfl) (by kernel_rfl) (.inl (by kernel_rfl)) (by decide) (fun _ _ _ h => h) rfl (fun w h => ex_load_at _ _ rfl _ _ rfl (u8s (chunkM X (q + j))) (by rw [u8s_length, Hcl.out]) (hcc h)) ?_; simp only [Act.put, List.setIfInBounds_toArray, List.set_cons_zero, List.set_cons_succ]
      refine wpAnyK_one (i := 6) (fuel := 1) rfl (by kernel_rfl) rfl (fun K hK => ?_)
      (go_simp; go_wp2_with (go_at_call 74; refine (compr_code Hcl.out (hashN_length X (q + j))).mono ?_; rintro e w ⟨rfl, hs⟩; replace h := h.quiet hs; clear hs)); refine hK.out _ _ (fun _ => h.to) ?_; clear hK K
      try simp only [Act.put, List.setIfInBounds_toArray, List.set_cons_zero, List.set_cons_succ]
      refine wpAnyK_one (i := 7) (fuel := 0) rfl (by kernel_rfl) rfl (fun K hK => ?_)
      refine op_runs none rfl (ex_store h _ _ _ rfl _ _ rfl _ rfl) ?_; clear h; rintro _ w ⟨rfl, h⟩; refine hK.out _ _ (SJ.past (by kernel_rfl)) ?_; clear hK K
      try simp only [Act.put, List.setIfInBounds_toArray, List.set_cons_zero, List.set_cons_succ]
      refine wpAnyK_done (by kernel_rfl) ?_
      rw [← hashN_succ] at h
      clear hat hcc f2 f3 f4 f5 f6
      go_wp2
      refine ⟨⟨j + 1, congrArg (Value.int .i64) (by omega), by omega, h.to⟩, by simp only [intOf]; omega⟩
    · have hr : X.length / 64 = q + j := by have := HrX.out; have := HX64.out; omega
      have hsum : sumM all = toldM (hashN X (q + j)) := by rw [Hsum.out, hr]
      have Hsum2 := Lib.hid hsum
      clear Hsum hsum hr
      go_wp2_with (first
        | (go_at_call 75; refine (told_code (hashN_length X (q + j))).mono ?_; rintro e w ⟨rfl, hs⟩; replace h := h.quiet hs; clear hs)
        | (refine wl_reads rfl (ex_loadv h _ _ rfl _ _ rfl) ?_) | (refine wl_runs rfl (ex_store1i h _ _ _ rfl _ _ rfl _ _ rfl) ?_; clear h; rintro _ w ⟨rfl, h⟩; try dsimp only [Act.put]) | (refine wl_runs rfl (ex_store1s h _ _ _ rfl _ _ rfl _ _ _ rfl) ?_; clear h; rintro _ w ⟨rfl, h⟩; try dsimp only [Act.put]) | (refine wl_runs rfl (ex_store1b h _ _ _ rfl _ _ rfl _ rfl) ?_; clear h; rintro _ w ⟨rfl, h⟩; try dsimp only [Act.put]) | (refine wl_runs rfl (ex_store1t h _ _ _ rfl _ _ rfl _ rfl) ?_; clear h; rintro _ w ⟨rfl, h⟩; try dsimp only [Act.put]) | (refine wl_runs rfl (ex_store1p h _ _ _ rfl _ _ rfl _ rfl) ?_; clear h; rintro _ w ⟨rfl, h⟩; try dsimp only [Act.put]) | (refine wl_runs rfl (ex_store1m h _ _ _ rfl _ _ rfl _ rfl) ?_; clear h; rintro _ w ⟨rfl, h⟩; try dsimp only [Act.put]) | (refine wl_runs rfl (ex_store h _ _ _ rfl _ _ rfl _ rfl) ?_; clear h; rintro _ w ⟨rfl, h⟩; try dsimp only [Act.put]) | (refine wl_runs rfl (ex_alloc h _ rfl) ?_; clear h; rintro _ w ⟨g, rfl, h⟩) | (refine wl_runs rfl (ex_box h _ _ rfl _ rfl) ?_; clear h; rintro _ w ⟨g, rfl, h⟩) | (refine wl_runs rfl (ex_box1i h _ _ rfl _ _ rfl) ?_; clear h; rintro _ w ⟨g, rfl, h⟩) | (refine wl_runs rfl (ex_box1s h _ _ rfl _ _ _ rfl) ?_; clear h; rintro _ w ⟨g, rfl, h⟩) | (refine wl_runs rfl (ex_box1b h _ _ rfl _ rfl) ?_; clear h; rintro _ w ⟨g, rfl, h⟩) | (refine wl_runs rfl (ex_box1t h _ _ rfl _ rfl) ?_; clear h; rintro _ w ⟨g, rfl, h⟩) | (refine wl_runs rfl (ex_box1p h _ _ rfl _ rfl) ?_; clear h; rintro _ w ⟨g, rfl, h⟩) | (refine wl_runs rfl (ex_box1m h _ _ rfl _ rfl) ?_; clear h; rintro _ w ⟨g, rfl, h⟩) | (refine wl_runs rfl (ex_slice1 h _ _ rfl _ rfl) ?_; clear h; rintro _ w ⟨g, rfl, h⟩) | (refine wl_runs rfl (ex_slice1i h _ _ rfl _ _ rfl) ?_; clear h; rintro _ w ⟨g, rfl, h⟩) | (refine wl_runs rfl (ex_slice1s h _ _ rfl _ _ _ rfl) ?_; clear h; rintro _ w ⟨g, rfl, h⟩) | (refine wl_runs rfl (ex_slice1b h _ _ rfl _ rfl) ?_; clear h; rintro _ w ⟨g, rfl, h⟩) | (refine wl_runs rfl (ex_slice1t h _ _ rfl _ rfl) ?_; clear h; rintro _ w ⟨g, rfl, h⟩) | (refine wl_runs rfl (ex_slice1p h _ _ rfl _ rfl) ?_; clear h; rintro _ w ⟨g, rfl, h⟩) | (refine wl_runs rfl (ex_slice1m h _ _ rfl _ rfl) ?_; clear h; rintro _ w ⟨g, rfl, h⟩) | (refine wl_reads rfl (ex_lit0 _ rfl) ?_))
      refine bodyPost_ret (res_cell1 rfl rfl (h.loadVar 49 gr 0)) rfl ⟨?_, h.to⟩
      rw [Hsum2.out]
end Go.Proofs.Ytcmgjoamfjijhaa
