/- The reference's chain. -/
import Derived.Test.YtjmjdffnakojpaaExpand
import Derived.Test.YtjmjdffnakojpaaMacRef
namespace Go.Proofs.Ytjmjdffnakojpaa
open Go.RowKit
set_option linter.unusedVariables false
set_option linter.unusedSimpArgs false

set_option maxRecDepth 100000 in
set_option maxHeartbeats 2000000 in
theorem expand_ref {S : Nat → Prop} {w0 w : World} {L : List Ent} {A : Option Addr} {n c m : Nat} {prk info : List UInt8} (h : St S w0 w L) [ka : HasSl L A n c 1 (u8s info)] (hp : prk.length = 32) (hn : n ≤ 100000) (hm : m ≤ 8160) :
    Calls Try.prog 31 #[arr prk, .slice A n c, .int .i64 (m : Int)] w fun e w' => ∃ A' c', e = .returned (.tuple #[.slice A' m c', .int .i64 0]) ∧ St S w0 w' (eGot A' m c' 1 (u8s (expandM prk info m)) :: L) := by
  have hrow : Row (u8s prk) 32 := Row.mk' (by rw [u8s_length, hp]) (u8s_one _) (by omega)
  have f1 : decide ((m : Int) < 0) = false := by simp
  have f2 : decide ((8160 : Int) < (m : Int)) = false := by simp; omega
  have hnl := (h.sl A n c).n_eq
  have Hnl := Lib.hid hnl
  clear hnl
  unfold arr
  go_enter Try.func31, Try.ntmps31
  go_wp2_with (first
    | (refine wl_runs rfl (ex_box h 54 _ rfl (u8s prk) rfl) ?_; clear h; rintro _ w ⟨g3, rfl, h⟩)
    | (refine wl_reads rfl (ex_load1 h _ _ rfl _ _ rfl) ?_) | (refine wl_reads rfl (ex_load h _ _ rfl _ _ rfl) ?_) | (refine wl_runs rfl (ex_store1i h _ _ _ rfl _ _ rfl _ _ rfl) ?_; clear h; rintro _ w ⟨rfl, h⟩; try dsimp only [Act.put]) | (refine wl_runs rfl (ex_store1s h _ _ _ rfl _ _ rfl _ _ _ rfl) ?_; clear h; rintro _ w ⟨rfl, h⟩; try dsimp only [Act.put]) | (refine wl_runs rfl (ex_store1b h _ _ _ rfl _ _ rfl _ rfl) ?_; clear h; rintro _ w ⟨rfl, h⟩; try dsimp only [Act.put]) | (refine wl_runs rfl (ex_store1t h _ _ _ rfl _ _ rfl _ rfl) ?_; clear h; rintro _ w ⟨rfl, h⟩; try dsimp only [Act.put]) | (refine wl_runs rfl (ex_store1p h _ _ _ rfl _ _ rfl _ rfl) ?_; clear h; rintro _ w ⟨rfl, h⟩; try dsimp only [Act.put]) | (refine wl_runs rfl (ex_store1m h _ _ _ rfl _ _ rfl _ rfl) ?_; clear h; rintro _ w ⟨rfl, h⟩; try dsimp only [Act.put]) | (refine wl_runs rfl (ex_store h _ _ _ rfl _ _ rfl _ rfl) ?_; clear h; rintro _ w ⟨rfl, h⟩; try dsimp only [Act.put]) | (refine wl_runs rfl (ex_alloc h _ rfl) ?_; clear h; rintro _ w ⟨g, rfl, h⟩) | (refine wl_runs rfl (ex_box h _ _ rfl _ rfl) ?_; clear h; rintro _ w ⟨g, rfl, h⟩) | (refine wl_runs rfl (ex_box1i h _ _ rfl _ _ rfl) ?_; clear h; rintro _ w ⟨g, rfl, h⟩) | (refine wl_runs rfl (ex_box1s h _ _ rfl _ _ _ rfl) ?_; clear h; rintro _ w ⟨g, rfl, h⟩) | (refine wl_runs rfl (ex_box1b h _ _ rfl _ rfl) ?_; clear h; rintro _ w ⟨g, rfl, h⟩) | (refine wl_runs rfl (ex_box1t h _ _ rfl _ rfl) ?_; clear h; rintro _ w ⟨g, rfl, h⟩) | (refine wl_runs rfl (ex_box1p h _ _ rfl _ rfl) ?_; clear h; rintro _ w ⟨g, rfl, h⟩) | (refine wl_runs rfl (ex_box1m h _ _ rfl _ rfl) ?_; clear h; rintro _ w ⟨g, rfl, h⟩) | (refine wl_runs rfl (ex_slice1 h _ _ rfl _ rfl) ?_; clear h; rintro _ w ⟨g, rfl, h⟩) | (refine wl_runs rfl (ex_slice1i h _ _ rfl _ _ rfl) ?_; clear h; rintro _ w ⟨g, rfl, h⟩) | (refine wl_runs rfl (ex_slice1s h _ _ rfl _ _ _ rfl) ?_; clear h; rintro _ w ⟨g, rfl, h⟩) | (refine wl_runs rfl (ex_slice1b h _ _ rfl _ rfl) ?_; clear h; rintro _ w ⟨g, rfl, h⟩) | (refine wl_runs rfl (ex_slice1t h _ _ rfl _ rfl) ?_; clear h; rintro _ w ⟨g, rfl, h⟩) | (refine wl_runs rfl (ex_slice1p h _ _ rfl _ rfl) ?_; clear h; rintro _ w ⟨g, rfl, h⟩) | (refine wl_runs rfl (ex_slice1m h _ _ rfl _ rfl) ?_; clear h; rintro _ w ⟨g, rfl, h⟩) | (refine wl_reads rfl (ex_lit0 _ rfl) ?_))
  have h := (h.nilRow 5 1).nilRow 5 1
  go_loopw [8, 9, 10] (fun v8 v9 x wr => ∃ (k : Nat) (A8 : Option Addr) (c8 : Nat) (A9 : Option Addr) (n9 c9 : Nat), v8 = .slice A8 (32 * k) c8 ∧ v9 = .slice A9 n9 c9 ∧ x = .int .i64 ((k + 1 : Nat) : Int) ∧ 32 * k < m + 32 ∧
    St S w0 wr (eOwn 5 1 A8 (32 * k) c8 (u8s (chainM prk info k)) :: eOwn 5 1 A9 n9 c9 (u8s (linkM prk info k)) :: eBlk g3 54 (u8s prk) :: L)) (fun _ _ x _ => 300 - (intOf x).toNat)
  case atStart => exact ⟨0, none, 0, none, 0, 0, rfl, rfl, rfl, by omega, h⟩
  case round =>
    clear h
    obtain ⟨k, A8, c8, A9, n9, c9, rfl, rfl, rfl, hk, h⟩ := hrel
    by_cases hlt : 32 * k < m
    · have f3 : 32 * (k : Int) < (m : Int) := by omega
      have hn9 := (h.sl A9 n9 c9).n_eq
      have hle := linkM_le prk info k
      have hn9b : n9 ≤ 32 := by omega
      have hxl := linkM_length prk info k
      have hk8 : (UInt8.ofNat (k + 1)).toNat = (k + 1) % 256 := by simp
      have hX : macM prk (linkM prk info k ++ info ++ [UInt8.ofNat (k + 1)]) = linkM prk info (k + 1) := rfl
      have hch : chainM prk info (k + 1) = chainM prk info k ++ linkM prk info (k + 1) := rfl
      obtain ⟨T, hT⟩ : ∃ T, linkM prk info k = T := ⟨_, rfl⟩
      obtain ⟨X, hX2⟩ : ∃ X, linkM prk info (k + 1) = X := ⟨_, rfl⟩
      rw [hT] at h hX hle hn9
      rw [hX2] at hX hxl hch
      have HX := Lib.hid hX
      have HX2 := Lib.hid hX2
      have Hch := Lib.hid hch
      have Hk8 := Lib.hid hk8
      have hr32 : Row (u8s X) 32 := Row.mk' (by rw [u8s_length, hxl]) (u8s_one _) (by omega)
      have hr1 : Row (u8s [UInt8.ofNat (k + 1)]) 1 := Row.mk' rfl (u8s_one _) (by omega)
      clear hX hX2 hn9 hle hT hxl hk8 hch
      go_wp2
      refine wp_region_K 12 (fun w' => St _ _ w' _) (by kernel_rfl) h.drew ?_; replace h := h.drew
      refine wpAnyK_pure 24 (v := ?_) (i := 0) (fuel := 11) rfl rfl (by kernel_rfl) (by kernel_rfl) (by kernel_rfl) (by decide) (fun _ _ _ h => h) (Or.inl ⟨by rfl, fun w _ => ?_⟩) ?_; rotate_left; (go_simp; with_reducible rfl); simp only [Act.put, List.setIfInBounds_toArray, List.set_cons_zero, List.set_cons_succ]
      refine wpAnyK_pure 25 (v := ?_) (i := 1) (fuel := 10) rfl rfl (by kernel_rfl) (by kernel_rfl) (by kernel_rfl) (by decide) (fun _ _ _ h => h) (Or.inl ⟨by rfl, fun w _ => ?_⟩) ?_; rotate_left; (go_simp; with_reducible rfl); simp only [Act.put, List.setIfInBounds_toArray, List.set_cons_zero, List.set_cons_succ]
      refine wpAnyK_pure 27 (v := ?_) (i := 3) (fuel := 9) rfl rfl (by kernel_rfl) (by kernel_rfl) (by kernel_rfl) (by decide) (fun _ _ _ h => h) (Or.inl ⟨by rfl, fun w _ => ?_⟩) ?_; rotate_left; (go_simp; with_reducible rfl); simp only [Act.put, List.setIfInBounds_toArray, List.set_cons_zero, List.set_cons_succ]
      refine wpAnyK_pure 29 (v := ?_) (i := 5) (fuel := 8) rfl rfl (by kernel_rfl) (by kernel_rfl) (by kernel_rfl) (by decide) (fun _ _ _ h => h) (Or.inl ⟨by rfl, fun w _ => ?_⟩) ?_; rotate_left; (go_simp; with_reducible rfl); simp only [Act.put, List.setIfInBounds_toArray, List.set_cons_zero, List.set_cons_succ]
      refine wpAnyK_pure 30 (v := ?_) (i := 6) (fuel := 7) rfl rfl (by kernel_rfl) (by kernel_rfl) (by kernel_rfl) (by decide) (fun _ _ _ h => h) (Or.inl ⟨by rfl, fun w _ => ?_⟩) ?_; rotate_left; (go_simp; with_reducible rfl); simp only [Act.put, List.setIfInBounds_toArray, List.set_cons_zero, List.set_cons_succ]
      refine wpAnyK_three (i := 2) (i2 := 7) (i3 := 10) (fuel := 6) rfl rfl rfl (by kernel_rfl) rfl rfl rfl (fun K hK => ?_) (fun K hK => ?_) (fun K hK => ?_)
      focus
        refine op_runs (some 26) rfl (ex_append_nil h _ _ _ rfl rfl A9 n9 c9 rfl (h.sl A9 n9 c9) (u8s_one _) (by simp [maxLen]; omega) (by omega)) ?_; clear h; rintro _ w ⟨A1, c1, rfl, h⟩; refine hK.out _ _ (fun _ => h.to) ?_; clear hK K
        try simp only [Act.put, List.setIfInBounds_toArray, List.set_cons_zero, List.set_cons_succ]
        refine wpAnyK_three (i := 4) (i2 := 7) (i3 := 10) (fuel := 5) rfl rfl rfl (by kernel_rfl) rfl rfl rfl (fun K hK => ?_) (fun K hK => ?_) (fun K hK => ?_)
        focus
          refine op_runs (some 28) rfl (ex_append h _ _ _ rfl A1 rfl A n c rfl (h.sl A n c) (u8s_one _) (by simp [maxLen]; omega) (by omega)) ?_; clear h; rintro _ w ⟨A2, c2, rfl, h⟩; rw [u8s_append] at h; refine hK.out _ _ (fun _ => h.to) ?_; clear hK K
          try simp only [Act.put, List.setIfInBounds_toArray, List.set_cons_zero, List.set_cons_succ]
          refine wpAnyK_two (i := 7) (i2 := 10) (fuel := 4) rfl rfl (by kernel_rfl) rfl rfl (fun K hK => ?_) (fun K hK => ?_)
          focus
            refine op_runs (some 31) rfl (ex_slice1i h _ _ rfl _ _ rfl) ?_; clear h; rintro _ w ⟨gb, rfl, h⟩; replace h : St _ _ w (eBlk gb 5 (u8s [UInt8.ofNat (k + 1)]) :: _) := (by rw [show u8s [UInt8.ofNat (k + 1)] = [.int .u8 (((k + 1) % 256 : Nat) : Int)] by simp [u8s, u8v, Hk8.out]]; exact h); refine hK.out _ _ (fun _ => h.to) ?_; clear hK K
            try simp only [Act.put, List.setIfInBounds_toArray, List.set_cons_zero, List.set_cons_succ]
            refine wpAnyK_two (i := 8) (i2 := 10) (fuel := 3) rfl rfl (by kernel_rfl) rfl rfl (fun K hK => ?_) (fun K hK => ?_)
            focus
              refine op_runs (some 32) rfl (ex_append h _ _ _ rfl A2 rfl (some ⟨gb, 0, none⟩) 1 1 rfl (h.sl (some ⟨gb, 0, none⟩) 1 1) (u8s_one _) (by simp [maxLen]; omega) (by omega)) ?_; clear h; rintro _ w ⟨A3, c3, rfl, h⟩; rw [u8s_append] at h; refine hK.out _ _ (fun _ => h.to) ?_; clear hK K
              try simp only [Act.put, List.setIfInBounds_toArray, List.set_cons_zero, List.set_cons_succ]
              refine wpAnyK_two (i := 9) (i2 := 10) (fuel := 2) rfl rfl (by kernel_rfl) rfl rfl (fun K hK => ?_) (fun K hK => ?_)
              focus
                (go_simp; go_wp2_with (go_at_call 26; refine (mac_ref h (by decide) (by omega)).mono ?_; rw [HX.out]; clear h; rintro e w ⟨rfl, h⟩)); refine hK.out _ _ (fun _ => h.to) ?_; clear hK K
                try simp only [Act.put, List.setIfInBounds_toArray, List.set_cons_zero, List.set_cons_succ]
                refine wpAnyK_one (i := 10) (fuel := 1) rfl (by kernel_rfl) rfl (fun K hK => ?_)
                refine op_runs (some 11) rfl (ex_alloc h _ rfl) ?_; clear h; rintro _ w ⟨g, rfl, h⟩; refine hK.out _ _ (fun _ => h.to) ?_; clear hK K
                try simp only [Act.put, List.setIfInBounds_toArray, List.set_cons_zero, List.set_cons_succ]
                refine wpAnyK_one (i := 11) (fuel := 0) rfl (by kernel_rfl) rfl (fun K hK => ?_)
                refine op_runs none rfl (ex_store h _ _ _ rfl _ _ rfl _ rfl) ?_; clear h; rintro _ w ⟨rfl, h⟩; refine hK.out _ _ (fun _ => h.to) ?_; clear hK K
                try simp only [Act.put, List.setIfInBounds_toArray, List.set_cons_zero, List.set_cons_succ]
                refine wpAnyK_done (by kernel_rfl) ?_
              rotate_left 1
              focus
                refine op_runs (some 11) rfl (ex_alloc h _ rfl) ?_; clear h; rintro _ w ⟨g, rfl, h⟩; refine hK.out _ _ (fun _ => h.to) ?_; clear hK K
                try simp only [Act.put, List.setIfInBounds_toArray, List.set_cons_zero, List.set_cons_succ]
                refine wpAnyK_one (i := 9) (fuel := 1) rfl (by kernel_rfl) rfl (fun K hK => ?_)
                (go_simp; go_wp2_with (go_at_call 26; refine (mac_ref h (by decide) (by omega)).mono ?_; rw [HX.out]; clear h; rintro e w ⟨rfl, h⟩)); refine hK.out _ _ (fun _ => h.to) ?_; clear hK K
                try simp only [Act.put, List.setIfInBounds_toArray, List.set_cons_zero, List.set_cons_succ]
                refine wpAnyK_one (i := 11) (fuel := 0) rfl (by kernel_rfl) rfl (fun K hK => ?_)
                refine op_runs none rfl (ex_store h _ _ _ rfl _ _ rfl _ rfl) ?_; clear h; rintro _ w ⟨rfl, h⟩; refine hK.out _ _ (fun _ => h.to) ?_; clear hK K
                try simp only [Act.put, List.setIfInBounds_toArray, List.set_cons_zero, List.set_cons_succ]
                refine wpAnyK_done (by kernel_rfl) ?_
              rotate_left 1
            rotate_left 2
            focus
              refine op_runs (some 11) rfl (ex_alloc h _ rfl) ?_; clear h; rintro _ w ⟨g, rfl, h⟩; refine hK.out _ _ (fun _ => h.to) ?_; clear hK K
              try simp only [Act.put, List.setIfInBounds_toArray, List.set_cons_zero, List.set_cons_succ]
              refine wpAnyK_one (i := 8) (fuel := 2) rfl (by kernel_rfl) rfl (fun K hK => ?_)
              refine op_runs (some 32) rfl (ex_append h _ _ _ rfl A2 rfl (some ⟨gb, 0, none⟩) 1 1 rfl (h.sl (some ⟨gb, 0, none⟩) 1 1) (u8s_one _) (by simp [maxLen]; omega) (by omega)) ?_; clear h; rintro _ w ⟨A3, c3, rfl, h⟩; rw [u8s_append] at h; refine hK.out _ _ (fun _ => h.to) ?_; clear hK K
              try simp only [Act.put, List.setIfInBounds_toArray, List.set_cons_zero, List.set_cons_succ]
              refine wpAnyK_one (i := 9) (fuel := 1) rfl (by kernel_rfl) rfl (fun K hK => ?_)
              (go_simp; go_wp2_with (go_at_call 26; refine (mac_ref h (by decide) (by omega)).mono ?_; rw [HX.out]; clear h; rintro e w ⟨rfl, h⟩)); refine hK.out _ _ (fun _ => h.to) ?_; clear hK K
              try simp only [Act.put, List.setIfInBounds_toArray, List.set_cons_zero, List.set_cons_succ]
              refine wpAnyK_one (i := 11) (fuel := 0) rfl (by kernel_rfl) rfl (fun K hK => ?_)
              refine op_runs none rfl (ex_store h _ _ _ rfl _ _ rfl _ rfl) ?_; clear h; rintro _ w ⟨rfl, h⟩; refine hK.out _ _ (fun _ => h.to) ?_; clear hK K
              try simp only [Act.put, List.setIfInBounds_toArray, List.set_cons_zero, List.set_cons_succ]
              refine wpAnyK_done (by kernel_rfl) ?_
            rotate_left 1
          rotate_left 3
          focus
            refine op_runs (some 11) rfl (ex_alloc h _ rfl) ?_; clear h; rintro _ w ⟨g, rfl, h⟩; refine hK.out _ _ (fun _ => h.to) ?_; clear hK K
            try simp only [Act.put, List.setIfInBounds_toArray, List.set_cons_zero, List.set_cons_succ]
            refine wpAnyK_one (i := 7) (fuel := 3) rfl (by kernel_rfl) rfl (fun K hK => ?_)
            refine op_runs (some 31) rfl (ex_slice1i h _ _ rfl _ _ rfl) ?_; clear h; rintro _ w ⟨gb, rfl, h⟩; replace h : St _ _ w (eBlk gb 5 (u8s [UInt8.ofNat (k + 1)]) :: _) := (by rw [show u8s [UInt8.ofNat (k + 1)] = [.int .u8 (((k + 1) % 256 : Nat) : Int)] by simp [u8s, u8v, Hk8.out]]; exact h); refine hK.out _ _ (fun _ => h.to) ?_; clear hK K
            try simp only [Act.put, List.setIfInBounds_toArray, List.set_cons_zero, List.set_cons_succ]
            refine wpAnyK_one (i := 8) (fuel := 2) rfl (by kernel_rfl) rfl (fun K hK => ?_)
            refine op_runs (some 32) rfl (ex_append h _ _ _ rfl A2 rfl (some ⟨gb, 0, none⟩) 1 1 rfl (h.sl (some ⟨gb, 0, none⟩) 1 1) (u8s_one _) (by simp [maxLen]; omega) (by omega)) ?_; clear h; rintro _ w ⟨A3, c3, rfl, h⟩; rw [u8s_append] at h; refine hK.out _ _ (fun _ => h.to) ?_; clear hK K
            try simp only [Act.put, List.setIfInBounds_toArray, List.set_cons_zero, List.set_cons_succ]
            refine wpAnyK_one (i := 9) (fuel := 1) rfl (by kernel_rfl) rfl (fun K hK => ?_)
            (go_simp; go_wp2_with (go_at_call 26; refine (mac_ref h (by decide) (by omega)).mono ?_; rw [HX.out]; clear h; rintro e w ⟨rfl, h⟩)); refine hK.out _ _ (fun _ => h.to) ?_; clear hK K
            try simp only [Act.put, List.setIfInBounds_toArray, List.set_cons_zero, List.set_cons_succ]
            refine wpAnyK_one (i := 11) (fuel := 0) rfl (by kernel_rfl) rfl (fun K hK => ?_)
            refine op_runs none rfl (ex_store h _ _ _ rfl _ _ rfl _ rfl) ?_; clear h; rintro _ w ⟨rfl, h⟩; refine hK.out _ _ (fun _ => h.to) ?_; clear hK K
            try simp only [Act.put, List.setIfInBounds_toArray, List.set_cons_zero, List.set_cons_succ]
            refine wpAnyK_done (by kernel_rfl) ?_
          rotate_left 1
        rotate_left 4
        focus
          refine op_runs (some 31) rfl (ex_slice1i h _ _ rfl _ _ rfl) ?_; clear h; rintro _ w ⟨gb, rfl, h⟩; replace h : St _ _ w (eBlk gb 5 (u8s [UInt8.ofNat (k + 1)]) :: _) := (by rw [show u8s [UInt8.ofNat (k + 1)] = [.int .u8 (((k + 1) % 256 : Nat) : Int)] by simp [u8s, u8v, Hk8.out]]; exact h); refine hK.out _ _ (fun _ => h.to) ?_; clear hK K
          try simp only [Act.put, List.setIfInBounds_toArray, List.set_cons_zero, List.set_cons_succ]
          refine wpAnyK_two (i := 4) (i2 := 10) (fuel := 4) rfl rfl (by kernel_rfl) rfl rfl (fun K hK => ?_) (fun K hK => ?_)
          focus
            refine op_runs (some 28) rfl (ex_append h _ _ _ rfl A1 rfl A n c rfl (h.sl A n c) (u8s_one _) (by simp [maxLen]; omega) (by omega)) ?_; clear h; rintro _ w ⟨A2, c2, rfl, h⟩; rw [u8s_append] at h; refine hK.out _ _ (fun _ => h.to) ?_; clear hK K
            try simp only [Act.put, List.setIfInBounds_toArray, List.set_cons_zero, List.set_cons_succ]
            refine wpAnyK_two (i := 8) (i2 := 10) (fuel := 3) rfl rfl (by kernel_rfl) rfl rfl (fun K hK => ?_) (fun K hK => ?_)
            focus
              refine op_runs (some 32) rfl (ex_append h _ _ _ rfl A2 rfl (some ⟨gb, 0, none⟩) 1 1 rfl (h.sl (some ⟨gb, 0, none⟩) 1 1) (u8s_one _) (by simp [maxLen]; omega) (by omega)) ?_; clear h; rintro _ w ⟨A3, c3, rfl, h⟩; rw [u8s_append] at h; refine hK.out _ _ (fun _ => h.to) ?_; clear hK K
              try simp only [Act.put, List.setIfInBounds_toArray, List.set_cons_zero, List.set_cons_succ]
              refine wpAnyK_two (i := 9) (i2 := 10) (fuel := 2) rfl rfl (by kernel_rfl) rfl rfl (fun K hK => ?_) (fun K hK => ?_)
              focus
                (go_simp; go_wp2_with (go_at_call 26; refine (mac_ref h (by decide) (by omega)).mono ?_; rw [HX.out]; clear h; rintro e w ⟨rfl, h⟩)); refine hK.out _ _ (fun _ => h.to) ?_; clear hK K
                try simp only [Act.put, List.setIfInBounds_toArray, List.set_cons_zero, List.set_cons_succ]
                refine wpAnyK_one (i := 10) (fuel := 1) rfl (by kernel_rfl) rfl (fun K hK => ?_)
                refine op_runs (some 11) rfl (ex_alloc h _ rfl) ?_; clear h; rintro _ w ⟨g, rfl, h⟩; refine hK.out _ _ (fun _ => h.to) ?_; clear hK K
                try simp only [Act.put, List.setIfInBounds_toArray, List.set_cons_zero, List.set_cons_succ]
                refine wpAnyK_one (i := 11) (fuel := 0) rfl (by kernel_rfl) rfl (fun K hK => ?_)
                refine op_runs none rfl (ex_store h _ _ _ rfl _ _ rfl _ rfl) ?_; clear h; rintro _ w ⟨rfl, h⟩; refine hK.out _ _ (fun _ => h.to) ?_; clear hK K
                try simp only [Act.put, List.setIfInBounds_toArray, List.set_cons_zero, List.set_cons_succ]
                refine wpAnyK_done (by kernel_rfl) ?_
              rotate_left 1
              focus
                refine op_runs (some 11) rfl (ex_alloc h _ rfl) ?_; clear h; rintro _ w ⟨g, rfl, h⟩; refine hK.out _ _ (fun _ => h.to) ?_; clear hK K
                try simp only [Act.put, List.setIfInBounds_toArray, List.set_cons_zero, List.set_cons_succ]
                refine wpAnyK_one (i := 9) (fuel := 1) rfl (by kernel_rfl) rfl (fun K hK => ?_)
                (go_simp; go_wp2_with (go_at_call 26; refine (mac_ref h (by decide) (by omega)).mono ?_; rw [HX.out]; clear h; rintro e w ⟨rfl, h⟩)); refine hK.out _ _ (fun _ => h.to) ?_; clear hK K
                try simp only [Act.put, List.setIfInBounds_toArray, List.set_cons_zero, List.set_cons_succ]
                refine wpAnyK_one (i := 11) (fuel := 0) rfl (by kernel_rfl) rfl (fun K hK => ?_)
                refine op_runs none rfl (ex_store h _ _ _ rfl _ _ rfl _ rfl) ?_; clear h; rintro _ w ⟨rfl, h⟩; refine hK.out _ _ (fun _ => h.to) ?_; clear hK K
                try simp only [Act.put, List.setIfInBounds_toArray, List.set_cons_zero, List.set_cons_succ]
                refine wpAnyK_done (by kernel_rfl) ?_
              rotate_left 1
            rotate_left 2
            focus
              refine op_runs (some 11) rfl (ex_alloc h _ rfl) ?_; clear h; rintro _ w ⟨g, rfl, h⟩; refine hK.out _ _ (fun _ => h.to) ?_; clear hK K
              try simp only [Act.put, List.setIfInBounds_toArray, List.set_cons_zero, List.set_cons_succ]
              refine wpAnyK_one (i := 8) (fuel := 2) rfl (by kernel_rfl) rfl (fun K hK => ?_)
              refine op_runs (some 32) rfl (ex_append h _ _ _ rfl A2 rfl (some ⟨gb, 0, none⟩) 1 1 rfl (h.sl (some ⟨gb, 0, none⟩) 1 1) (u8s_one _) (by simp [maxLen]; omega) (by omega)) ?_; clear h; rintro _ w ⟨A3, c3, rfl, h⟩; rw [u8s_append] at h; refine hK.out _ _ (fun _ => h.to) ?_; clear hK K
              try simp only [Act.put, List.setIfInBounds_toArray, List.set_cons_zero, List.set_cons_succ]
              refine wpAnyK_one (i := 9) (fuel := 1) rfl (by kernel_rfl) rfl (fun K hK => ?_)
              (go_simp; go_wp2_with (go_at_call 26; refine (mac_ref h (by decide) (by omega)).mono ?_; rw [HX.out]; clear h; rintro e w ⟨rfl, h⟩)); refine hK.out _ _ (fun _ => h.to) ?_; clear hK K
              try simp only [Act.put, List.setIfInBounds_toArray, List.set_cons_zero, List.set_cons_succ]
              refine wpAnyK_one (i := 11) (fuel := 0) rfl (by kernel_rfl) rfl (fun K hK => ?_)
              refine op_runs none rfl (ex_store h _ _ _ rfl _ _ rfl _ rfl) ?_; clear h; rintro _ w ⟨rfl, h⟩; refine hK.out _ _ (fun _ => h.to) ?_; clear hK K
              try simp only [Act.put, List.setIfInBounds_toArray, List.set_cons_zero, List.set_cons_succ]
              refine wpAnyK_done (by kernel_rfl) ?_
            rotate_left 1
          rotate_left 3
          focus
            refine op_runs (some 11) rfl (ex_alloc h _ rfl) ?_; clear h; rintro _ w ⟨g, rfl, h⟩; refine hK.out _ _ (fun _ => h.to) ?_; clear hK K
            try simp only [Act.put, List.setIfInBounds_toArray, List.set_cons_zero, List.set_cons_succ]
            refine wpAnyK_one (i := 4) (fuel := 3) rfl (by kernel_rfl) rfl (fun K hK => ?_)
            refine op_runs (some 28) rfl (ex_append h _ _ _ rfl A1 rfl A n c rfl (h.sl A n c) (u8s_one _) (by simp [maxLen]; omega) (by omega)) ?_; clear h; rintro _ w ⟨A2, c2, rfl, h⟩; rw [u8s_append] at h; refine hK.out _ _ (fun _ => h.to) ?_; clear hK K
            try simp only [Act.put, List.setIfInBounds_toArray, List.set_cons_zero, List.set_cons_succ]
            refine wpAnyK_one (i := 8) (fuel := 2) rfl (by kernel_rfl) rfl (fun K hK => ?_)
            refine op_runs (some 32) rfl (ex_append h _ _ _ rfl A2 rfl (some ⟨gb, 0, none⟩) 1 1 rfl (h.sl (some ⟨gb, 0, none⟩) 1 1) (u8s_one _) (by simp [maxLen]; omega) (by omega)) ?_; clear h; rintro _ w ⟨A3, c3, rfl, h⟩; rw [u8s_append] at h; refine hK.out _ _ (fun _ => h.to) ?_; clear hK K
            try simp only [Act.put, List.setIfInBounds_toArray, List.set_cons_zero, List.set_cons_succ]
            refine wpAnyK_one (i := 9) (fuel := 1) rfl (by kernel_rfl) rfl (fun K hK => ?_)
            (go_simp; go_wp2_with (go_at_call 26; refine (mac_ref h (by decide) (by omega)).mono ?_; rw [HX.out]; clear h; rintro e w ⟨rfl, h⟩)); refine hK.out _ _ (fun _ => h.to) ?_; clear hK K
            try simp only [Act.put, List.setIfInBounds_toArray, List.set_cons_zero, List.set_cons_succ]
            refine wpAnyK_one (i := 11) (fuel := 0) rfl (by kernel_rfl) rfl (fun K hK => ?_)
            refine op_runs none rfl (ex_store h _ _ _ rfl _ _ rfl _ rfl) ?_; clear h; rintro _ w ⟨rfl, h⟩; refine hK.out _ _ (fun _ => h.to) ?_; clear hK K
            try simp only [Act.put, List.setIfInBounds_toArray, List.set_cons_zero, List.set_cons_succ]
            refine wpAnyK_done (by kernel_rfl) ?_
          rotate_left 1
        rotate_left 4
        focus
          refine op_runs (some 11) rfl (ex_alloc h _ rfl) ?_; clear h; rintro _ w ⟨g, rfl, h⟩; refine hK.out _ _ (fun _ => h.to) ?_; clear hK K
          try simp only [Act.put, List.setIfInBounds_toArray, List.set_cons_zero, List.set_cons_succ]
          refine wpAnyK_two (i := 4) (i2 := 7) (fuel := 4) rfl rfl (by kernel_rfl) rfl rfl (fun K hK => ?_) (fun K hK => ?_)
          focus
            refine op_runs (some 28) rfl (ex_append h _ _ _ rfl A1 rfl A n c rfl (h.sl A n c) (u8s_one _) (by simp [maxLen]; omega) (by omega)) ?_; clear h; rintro _ w ⟨A2, c2, rfl, h⟩; rw [u8s_append] at h; refine hK.out _ _ (fun _ => h.to) ?_; clear hK K
            try simp only [Act.put, List.setIfInBounds_toArray, List.set_cons_zero, List.set_cons_succ]
            refine wpAnyK_one (i := 7) (fuel := 3) rfl (by kernel_rfl) rfl (fun K hK => ?_)
            refine op_runs (some 31) rfl (ex_slice1i h _ _ rfl _ _ rfl) ?_; clear h; rintro _ w ⟨gb, rfl, h⟩; replace h : St _ _ w (eBlk gb 5 (u8s [UInt8.ofNat (k + 1)]) :: _) := (by rw [show u8s [UInt8.ofNat (k + 1)] = [.int .u8 (((k + 1) % 256 : Nat) : Int)] by simp [u8s, u8v, Hk8.out]]; exact h); refine hK.out _ _ (fun _ => h.to) ?_; clear hK K
            try simp only [Act.put, List.setIfInBounds_toArray, List.set_cons_zero, List.set_cons_succ]
            refine wpAnyK_one (i := 8) (fuel := 2) rfl (by kernel_rfl) rfl (fun K hK => ?_)
            refine op_runs (some 32) rfl (ex_append h _ _ _ rfl A2 rfl (some ⟨gb, 0, none⟩) 1 1 rfl (h.sl (some ⟨gb, 0, none⟩) 1 1) (u8s_one _) (by simp [maxLen]; omega) (by omega)) ?_; clear h; rintro _ w ⟨A3, c3, rfl, h⟩; rw [u8s_append] at h; refine hK.out _ _ (fun _ => h.to) ?_; clear hK K
            try simp only [Act.put, List.setIfInBounds_toArray, List.set_cons_zero, List.set_cons_succ]
            refine wpAnyK_one (i := 9) (fuel := 1) rfl (by kernel_rfl) rfl (fun K hK => ?_)
            (go_simp; go_wp2_with (go_at_call 26; refine (mac_ref h (by decide) (by omega)).mono ?_; rw [HX.out]; clear h; rintro e w ⟨rfl, h⟩)); refine hK.out _ _ (fun _ => h.to) ?_; clear hK K
            try simp only [Act.put, List.setIfInBounds_toArray, List.set_cons_zero, List.set_cons_succ]
            refine wpAnyK_one (i := 11) (fuel := 0) rfl (by kernel_rfl) rfl (fun K hK => ?_)
            refine op_runs none rfl (ex_store h _ _ _ rfl _ _ rfl _ rfl) ?_; clear h; rintro _ w ⟨rfl, h⟩; refine hK.out _ _ (fun _ => h.to) ?_; clear hK K
            try simp only [Act.put, List.setIfInBounds_toArray, List.set_cons_zero, List.set_cons_succ]
            refine wpAnyK_done (by kernel_rfl) ?_
          rotate_left 1
          focus
            refine op_runs (some 31) rfl (ex_slice1i h _ _ rfl _ _ rfl) ?_; clear h; rintro _ w ⟨gb, rfl, h⟩; replace h : St _ _ w (eBlk gb 5 (u8s [UInt8.ofNat (k + 1)]) :: _) := (by rw [show u8s [UInt8.ofNat (k + 1)] = [.int .u8 (((k + 1) % 256 : Nat) : Int)] by simp [u8s, u8v, Hk8.out]]; exact h); refine hK.out _ _ (fun _ => h.to) ?_; clear hK K
            try simp only [Act.put, List.setIfInBounds_toArray, List.set_cons_zero, List.set_cons_succ]
            refine wpAnyK_one (i := 4) (fuel := 3) rfl (by kernel_rfl) rfl (fun K hK => ?_)
            refine op_runs (some 28) rfl (ex_append h _ _ _ rfl A1 rfl A n c rfl (h.sl A n c) (u8s_one _) (by simp [maxLen]; omega) (by omega)) ?_; clear h; rintro _ w ⟨A2, c2, rfl, h⟩; rw [u8s_append] at h; refine hK.out _ _ (fun _ => h.to) ?_; clear hK K
            try simp only [Act.put, List.setIfInBounds_toArray, List.set_cons_zero, List.set_cons_succ]
            refine wpAnyK_one (i := 8) (fuel := 2) rfl (by kernel_rfl) rfl (fun K hK => ?_)
            refine op_runs (some 32) rfl (ex_append h _ _ _ rfl A2 rfl (some ⟨gb, 0, none⟩) 1 1 rfl (h.sl (some ⟨gb, 0, none⟩) 1 1) (u8s_one _) (by simp [maxLen]; omega) (by omega)) ?_; clear h; rintro _ w ⟨A3, c3, rfl, h⟩; rw [u8s_append] at h; refine hK.out _ _ (fun _ => h.to) ?_; clear hK K
            try simp only [Act.put, List.setIfInBounds_toArray, List.set_cons_zero, List.set_cons_succ]
            refine wpAnyK_one (i := 9) (fuel := 1) rfl (by kernel_rfl) rfl (fun K hK => ?_)
            (go_simp; go_wp2_with (go_at_call 26; refine (mac_ref h (by decide) (by omega)).mono ?_; rw [HX.out]; clear h; rintro e w ⟨rfl, h⟩)); refine hK.out _ _ (fun _ => h.to) ?_; clear hK K
            try simp only [Act.put, List.setIfInBounds_toArray, List.set_cons_zero, List.set_cons_succ]
            refine wpAnyK_one (i := 11) (fuel := 0) rfl (by kernel_rfl) rfl (fun K hK => ?_)
            refine op_runs none rfl (ex_store h _ _ _ rfl _ _ rfl _ rfl) ?_; clear h; rintro _ w ⟨rfl, h⟩; refine hK.out _ _ (fun _ => h.to) ?_; clear hK K
            try simp only [Act.put, List.setIfInBounds_toArray, List.set_cons_zero, List.set_cons_succ]
            refine wpAnyK_done (by kernel_rfl) ?_
          rotate_left 1
        rotate_left 2
      rotate_left 10
      focus
        refine op_runs (some 31) rfl (ex_slice1i h _ _ rfl _ _ rfl) ?_; clear h; rintro _ w ⟨gb, rfl, h⟩; replace h : St _ _ w (eBlk gb 5 (u8s [UInt8.ofNat (k + 1)]) :: _) := (by rw [show u8s [UInt8.ofNat (k + 1)] = [.int .u8 (((k + 1) % 256 : Nat) : Int)] by simp [u8s, u8v, Hk8.out]]; exact h); refine hK.out _ _ (fun _ => h.to) ?_; clear hK K
        try simp only [Act.put, List.setIfInBounds_toArray, List.set_cons_zero, List.set_cons_succ]
        refine wpAnyK_two (i := 2) (i2 := 10) (fuel := 5) rfl rfl (by kernel_rfl) rfl rfl (fun K hK => ?_) (fun K hK => ?_)
        focus
          refine op_runs (some 26) rfl (ex_append_nil h _ _ _ rfl rfl A9 n9 c9 rfl (h.sl A9 n9 c9) (u8s_one _) (by simp [maxLen]; omega) (by omega)) ?_; clear h; rintro _ w ⟨A1, c1, rfl, h⟩; refine hK.out _ _ (fun _ => h.to) ?_; clear hK K
          try simp only [Act.put, List.setIfInBounds_toArray, List.set_cons_zero, List.set_cons_succ]
          refine wpAnyK_two (i := 4) (i2 := 10) (fuel := 4) rfl rfl (by kernel_rfl) rfl rfl (fun K hK => ?_) (fun K hK => ?_)
          focus
            refine op_runs (some 28) rfl (ex_append h _ _ _ rfl A1 rfl A n c rfl (h.sl A n c) (u8s_one _) (by simp [maxLen]; omega) (by omega)) ?_; clear h; rintro _ w ⟨A2, c2, rfl, h⟩; rw [u8s_append] at h; refine hK.out _ _ (fun _ => h.to) ?_; clear hK K
            try simp only [Act.put, List.setIfInBounds_toArray, List.set_cons_zero, List.set_cons_succ]
            refine wpAnyK_two (i := 8) (i2 := 10) (fuel := 3) rfl rfl (by kernel_rfl) rfl rfl (fun K hK => ?_) (fun K hK => ?_)
            focus
              refine op_runs (some 32) rfl (ex_append h _ _ _ rfl A2 rfl (some ⟨gb, 0, none⟩) 1 1 rfl (h.sl (some ⟨gb, 0, none⟩) 1 1) (u8s_one _) (by simp [maxLen]; omega) (by omega)) ?_; clear h; rintro _ w ⟨A3, c3, rfl, h⟩; rw [u8s_append] at h; refine hK.out _ _ (fun _ => h.to) ?_; clear hK K
              try simp only [Act.put, List.setIfInBounds_toArray, List.set_cons_zero, List.set_cons_succ]
              refine wpAnyK_two (i := 9) (i2 := 10) (fuel := 2) rfl rfl (by kernel_rfl) rfl rfl (fun K hK => ?_) (fun K hK => ?_)
              focus
                (go_simp; go_wp2_with (go_at_call 26; refine (mac_ref h (by decide) (by omega)).mono ?_; rw [HX.out]; clear h; rintro e w ⟨rfl, h⟩)); refine hK.out _ _ (fun _ => h.to) ?_; clear hK K
                try simp only [Act.put, List.setIfInBounds_toArray, List.set_cons_zero, List.set_cons_succ]
                refine wpAnyK_one (i := 10) (fuel := 1) rfl (by kernel_rfl) rfl (fun K hK => ?_)
                refine op_runs (some 11) rfl (ex_alloc h _ rfl) ?_; clear h; rintro _ w ⟨g, rfl, h⟩; refine hK.out _ _ (fun _ => h.to) ?_; clear hK K
                try simp only [Act.put, List.setIfInBounds_toArray, List.set_cons_zero, List.set_cons_succ]
                refine wpAnyK_one (i := 11) (fuel := 0) rfl (by kernel_rfl) rfl (fun K hK => ?_)
                refine op_runs none rfl (ex_store h _ _ _ rfl _ _ rfl _ rfl) ?_; clear h; rintro _ w ⟨rfl, h⟩; refine hK.out _ _ (fun _ => h.to) ?_; clear hK K
                try simp only [Act.put, List.setIfInBounds_toArray, List.set_cons_zero, List.set_cons_succ]
                refine wpAnyK_done (by kernel_rfl) ?_
              rotate_left 1
              focus
                refine op_runs (some 11) rfl (ex_alloc h _ rfl) ?_; clear h; rintro _ w ⟨g, rfl, h⟩; refine hK.out _ _ (fun _ => h.to) ?_; clear hK K
                try simp only [Act.put, List.setIfInBounds_toArray, List.set_cons_zero, List.set_cons_succ]
                refine wpAnyK_one (i := 9) (fuel := 1) rfl (by kernel_rfl) rfl (fun K hK => ?_)
                (go_simp; go_wp2_with (go_at_call 26; refine (mac_ref h (by decide) (by omega)).mono ?_; rw [HX.out]; clear h; rintro e w ⟨rfl, h⟩)); refine hK.out _ _ (fun _ => h.to) ?_; clear hK K
                try simp only [Act.put, List.setIfInBounds_toArray, List.set_cons_zero, List.set_cons_succ]
                refine wpAnyK_one (i := 11) (fuel := 0) rfl (by kernel_rfl) rfl (fun K hK => ?_)
                refine op_runs none rfl (ex_store h _ _ _ rfl _ _ rfl _ rfl) ?_; clear h; rintro _ w ⟨rfl, h⟩; refine hK.out _ _ (fun _ => h.to) ?_; clear hK K
                try simp only [Act.put, List.setIfInBounds_toArray, List.set_cons_zero, List.set_cons_succ]
                refine wpAnyK_done (by kernel_rfl) ?_
              rotate_left 1
            rotate_left 2
            focus
              refine op_runs (some 11) rfl (ex_alloc h _ rfl) ?_; clear h; rintro _ w ⟨g, rfl, h⟩; refine hK.out _ _ (fun _ => h.to) ?_; clear hK K
              try simp only [Act.put, List.setIfInBounds_toArray, List.set_cons_zero, List.set_cons_succ]
              refine wpAnyK_one (i := 8) (fuel := 2) rfl (by kernel_rfl) rfl (fun K hK => ?_)
              refine op_runs (some 32) rfl (ex_append h _ _ _ rfl A2 rfl (some ⟨gb, 0, none⟩) 1 1 rfl (h.sl (some ⟨gb, 0, none⟩) 1 1) (u8s_one _) (by simp [maxLen]; omega) (by omega)) ?_; clear h; rintro _ w ⟨A3, c3, rfl, h⟩; rw [u8s_append] at h; refine hK.out _ _ (fun _ => h.to) ?_; clear hK K
              try simp only [Act.put, List.setIfInBounds_toArray, List.set_cons_zero, List.set_cons_succ]
              refine wpAnyK_one (i := 9) (fuel := 1) rfl (by kernel_rfl) rfl (fun K hK => ?_)
              (go_simp; go_wp2_with (go_at_call 26; refine (mac_ref h (by decide) (by omega)).mono ?_; rw [HX.out]; clear h; rintro e w ⟨rfl, h⟩)); refine hK.out _ _ (fun _ => h.to) ?_; clear hK K
              try simp only [Act.put, List.setIfInBounds_toArray, List.set_cons_zero, List.set_cons_succ]
              refine wpAnyK_one (i := 11) (fuel := 0) rfl (by kernel_rfl) rfl (fun K hK => ?_)
              refine op_runs none rfl (ex_store h _ _ _ rfl _ _ rfl _ rfl) ?_; clear h; rintro _ w ⟨rfl, h⟩; refine hK.out _ _ (fun _ => h.to) ?_; clear hK K
              try simp only [Act.put, List.setIfInBounds_toArray, List.set_cons_zero, List.set_cons_succ]
              refine wpAnyK_done (by kernel_rfl) ?_
            rotate_left 1
          rotate_left 3
          focus
            refine op_runs (some 11) rfl (ex_alloc h _ rfl) ?_; clear h; rintro _ w ⟨g, rfl, h⟩; refine hK.out _ _ (fun _ => h.to) ?_; clear hK K
            try simp only [Act.put, List.setIfInBounds_toArray, List.set_cons_zero, List.set_cons_succ]
            refine wpAnyK_one (i := 4) (fuel := 3) rfl (by kernel_rfl) rfl (fun K hK => ?_)
            refine op_runs (some 28) rfl (ex_append h _ _ _ rfl A1 rfl A n c rfl (h.sl A n c) (u8s_one _) (by simp [maxLen]; omega) (by omega)) ?_; clear h; rintro _ w ⟨A2, c2, rfl, h⟩; rw [u8s_append] at h; refine hK.out _ _ (fun _ => h.to) ?_; clear hK K
            try simp only [Act.put, List.setIfInBounds_toArray, List.set_cons_zero, List.set_cons_succ]
            refine wpAnyK_one (i := 8) (fuel := 2) rfl (by kernel_rfl) rfl (fun K hK => ?_)
            refine op_runs (some 32) rfl (ex_append h _ _ _ rfl A2 rfl (some ⟨gb, 0, none⟩) 1 1 rfl (h.sl (some ⟨gb, 0, none⟩) 1 1) (u8s_one _) (by simp [maxLen]; omega) (by omega)) ?_; clear h; rintro _ w ⟨A3, c3, rfl, h⟩; rw [u8s_append] at h; refine hK.out _ _ (fun _ => h.to) ?_; clear hK K
            try simp only [Act.put, List.setIfInBounds_toArray, List.set_cons_zero, List.set_cons_succ]
            refine wpAnyK_one (i := 9) (fuel := 1) rfl (by kernel_rfl) rfl (fun K hK => ?_)
            (go_simp; go_wp2_with (go_at_call 26; refine (mac_ref h (by decide) (by omega)).mono ?_; rw [HX.out]; clear h; rintro e w ⟨rfl, h⟩)); refine hK.out _ _ (fun _ => h.to) ?_; clear hK K
            try simp only [Act.put, List.setIfInBounds_toArray, List.set_cons_zero, List.set_cons_succ]
            refine wpAnyK_one (i := 11) (fuel := 0) rfl (by kernel_rfl) rfl (fun K hK => ?_)
            refine op_runs none rfl (ex_store h _ _ _ rfl _ _ rfl _ rfl) ?_; clear h; rintro _ w ⟨rfl, h⟩; refine hK.out _ _ (fun _ => h.to) ?_; clear hK K
            try simp only [Act.put, List.setIfInBounds_toArray, List.set_cons_zero, List.set_cons_succ]
            refine wpAnyK_done (by kernel_rfl) ?_
          rotate_left 1
        rotate_left 4
        focus
          refine op_runs (some 11) rfl (ex_alloc h _ rfl) ?_; clear h; rintro _ w ⟨g, rfl, h⟩; refine hK.out _ _ (fun _ => h.to) ?_; clear hK K
          try simp only [Act.put, List.setIfInBounds_toArray, List.set_cons_zero, List.set_cons_succ]
          refine wpAnyK_one (i := 2) (fuel := 4) rfl (by kernel_rfl) rfl (fun K hK => ?_)
          refine op_runs (some 26) rfl (ex_append_nil h _ _ _ rfl rfl A9 n9 c9 rfl (h.sl A9 n9 c9) (u8s_one _) (by simp [maxLen]; omega) (by omega)) ?_; clear h; rintro _ w ⟨A1, c1, rfl, h⟩; refine hK.out _ _ (fun _ => h.to) ?_; clear hK K
          try simp only [Act.put, List.setIfInBounds_toArray, List.set_cons_zero, List.set_cons_succ]
          refine wpAnyK_one (i := 4) (fuel := 3) rfl (by kernel_rfl) rfl (fun K hK => ?_)
          refine op_runs (some 28) rfl (ex_append h _ _ _ rfl A1 rfl A n c rfl (h.sl A n c) (u8s_one _) (by simp [maxLen]; omega) (by omega)) ?_; clear h; rintro _ w ⟨A2, c2, rfl, h⟩; rw [u8s_append] at h; refine hK.out _ _ (fun _ => h.to) ?_; clear hK K
          try simp only [Act.put, List.setIfInBounds_toArray, List.set_cons_zero, List.set_cons_succ]
          refine wpAnyK_one (i := 8) (fuel := 2) rfl (by kernel_rfl) rfl (fun K hK => ?_)
          refine op_runs (some 32) rfl (ex_append h _ _ _ rfl A2 rfl (some ⟨gb, 0, none⟩) 1 1 rfl (h.sl (some ⟨gb, 0, none⟩) 1 1) (u8s_one _) (by simp [maxLen]; omega) (by omega)) ?_; clear h; rintro _ w ⟨A3, c3, rfl, h⟩; rw [u8s_append] at h; refine hK.out _ _ (fun _ => h.to) ?_; clear hK K
          try simp only [Act.put, List.setIfInBounds_toArray, List.set_cons_zero, List.set_cons_succ]
          refine wpAnyK_one (i := 9) (fuel := 1) rfl (by kernel_rfl) rfl (fun K hK => ?_)
          (go_simp; go_wp2_with (go_at_call 26; refine (mac_ref h (by decide) (by omega)).mono ?_; rw [HX.out]; clear h; rintro e w ⟨rfl, h⟩)); refine hK.out _ _ (fun _ => h.to) ?_; clear hK K
          try simp only [Act.put, List.setIfInBounds_toArray, List.set_cons_zero, List.set_cons_succ]
          refine wpAnyK_one (i := 11) (fuel := 0) rfl (by kernel_rfl) rfl (fun K hK => ?_)
          refine op_runs none rfl (ex_store h _ _ _ rfl _ _ rfl _ rfl) ?_; clear h; rintro _ w ⟨rfl, h⟩; refine hK.out _ _ (fun _ => h.to) ?_; clear hK K
          try simp only [Act.put, List.setIfInBounds_toArray, List.set_cons_zero, List.set_cons_succ]
          refine wpAnyK_done (by kernel_rfl) ?_
        rotate_left 1
      rotate_left 5
      focus
        refine op_runs (some 11) rfl (ex_alloc h _ rfl) ?_; clear h; rintro _ w ⟨g, rfl, h⟩; refine hK.out _ _ (fun _ => h.to) ?_; clear hK K
        try simp only [Act.put, List.setIfInBounds_toArray, List.set_cons_zero, List.set_cons_succ]
        refine wpAnyK_two (i := 2) (i2 := 7) (fuel := 5) rfl rfl (by kernel_rfl) rfl rfl (fun K hK => ?_) (fun K hK => ?_)
        focus
          refine op_runs (some 26) rfl (ex_append_nil h _ _ _ rfl rfl A9 n9 c9 rfl (h.sl A9 n9 c9) (u8s_one _) (by simp [maxLen]; omega) (by omega)) ?_; clear h; rintro _ w ⟨A1, c1, rfl, h⟩; refine hK.out _ _ (fun _ => h.to) ?_; clear hK K
          try simp only [Act.put, List.setIfInBounds_toArray, List.set_cons_zero, List.set_cons_succ]
          refine wpAnyK_two (i := 4) (i2 := 7) (fuel := 4) rfl rfl (by kernel_rfl) rfl rfl (fun K hK => ?_) (fun K hK => ?_)
          focus
            refine op_runs (some 28) rfl (ex_append h _ _ _ rfl A1 rfl A n c rfl (h.sl A n c) (u8s_one _) (by simp [maxLen]; omega) (by omega)) ?_; clear h; rintro _ w ⟨A2, c2, rfl, h⟩; rw [u8s_append] at h; refine hK.out _ _ (fun _ => h.to) ?_; clear hK K
            try simp only [Act.put, List.setIfInBounds_toArray, List.set_cons_zero, List.set_cons_succ]
            refine wpAnyK_one (i := 7) (fuel := 3) rfl (by kernel_rfl) rfl (fun K hK => ?_)
            refine op_runs (some 31) rfl (ex_slice1i h _ _ rfl _ _ rfl) ?_; clear h; rintro _ w ⟨gb, rfl, h⟩; replace h : St _ _ w (eBlk gb 5 (u8s [UInt8.ofNat (k + 1)]) :: _) := (by rw [show u8s [UInt8.ofNat (k + 1)] = [.int .u8 (((k + 1) % 256 : Nat) : Int)] by simp [u8s, u8v, Hk8.out]]; exact h); refine hK.out _ _ (fun _ => h.to) ?_; clear hK K
            try simp only [Act.put, List.setIfInBounds_toArray, List.set_cons_zero, List.set_cons_succ]
            refine wpAnyK_one (i := 8) (fuel := 2) rfl (by kernel_rfl) rfl (fun K hK => ?_)
            refine op_runs (some 32) rfl (ex_append h _ _ _ rfl A2 rfl (some ⟨gb, 0, none⟩) 1 1 rfl (h.sl (some ⟨gb, 0, none⟩) 1 1) (u8s_one _) (by simp [maxLen]; omega) (by omega)) ?_; clear h; rintro _ w ⟨A3, c3, rfl, h⟩; rw [u8s_append] at h; refine hK.out _ _ (fun _ => h.to) ?_; clear hK K
            try simp only [Act.put, List.setIfInBounds_toArray, List.set_cons_zero, List.set_cons_succ]
            refine wpAnyK_one (i := 9) (fuel := 1) rfl (by kernel_rfl) rfl (fun K hK => ?_)
            (go_simp; go_wp2_with (go_at_call 26; refine (mac_ref h (by decide) (by omega)).mono ?_; rw [HX.out]; clear h; rintro e w ⟨rfl, h⟩)); refine hK.out _ _ (fun _ => h.to) ?_; clear hK K
            try simp only [Act.put, List.setIfInBounds_toArray, List.set_cons_zero, List.set_cons_succ]
            refine wpAnyK_one (i := 11) (fuel := 0) rfl (by kernel_rfl) rfl (fun K hK => ?_)
            refine op_runs none rfl (ex_store h _ _ _ rfl _ _ rfl _ rfl) ?_; clear h; rintro _ w ⟨rfl, h⟩; refine hK.out _ _ (fun _ => h.to) ?_; clear hK K
            try simp only [Act.put, List.setIfInBounds_toArray, List.set_cons_zero, List.set_cons_succ]
            refine wpAnyK_done (by kernel_rfl) ?_
          rotate_left 1
          focus
            refine op_runs (some 31) rfl (ex_slice1i h _ _ rfl _ _ rfl) ?_; clear h; rintro _ w ⟨gb, rfl, h⟩; replace h : St _ _ w (eBlk gb 5 (u8s [UInt8.ofNat (k + 1)]) :: _) := (by rw [show u8s [UInt8.ofNat (k + 1)] = [.int .u8 (((k + 1) % 256 : Nat) : Int)] by simp [u8s, u8v, Hk8.out]]; exact h); refine hK.out _ _ (fun _ => h.to) ?_; clear hK K
            try simp only [Act.put, List.setIfInBounds_toArray, List.set_cons_zero, List.set_cons_succ]
            refine wpAnyK_one (i := 4) (fuel := 3) rfl (by kernel_rfl) rfl (fun K hK => ?_)
            refine op_runs (some 28) rfl (ex_append h _ _ _ rfl A1 rfl A n c rfl (h.sl A n c) (u8s_one _) (by simp [maxLen]; omega) (by omega)) ?_; clear h; rintro _ w ⟨A2, c2, rfl, h⟩; rw [u8s_append] at h; refine hK.out _ _ (fun _ => h.to) ?_; clear hK K
            try simp only [Act.put, List.setIfInBounds_toArray, List.set_cons_zero, List.set_cons_succ]
            refine wpAnyK_one (i := 8) (fuel := 2) rfl (by kernel_rfl) rfl (fun K hK => ?_)
            refine op_runs (some 32) rfl (ex_append h _ _ _ rfl A2 rfl (some ⟨gb, 0, none⟩) 1 1 rfl (h.sl (some ⟨gb, 0, none⟩) 1 1) (u8s_one _) (by simp [maxLen]; omega) (by omega)) ?_; clear h; rintro _ w ⟨A3, c3, rfl, h⟩; rw [u8s_append] at h; refine hK.out _ _ (fun _ => h.to) ?_; clear hK K
            try simp only [Act.put, List.setIfInBounds_toArray, List.set_cons_zero, List.set_cons_succ]
            refine wpAnyK_one (i := 9) (fuel := 1) rfl (by kernel_rfl) rfl (fun K hK => ?_)
            (go_simp; go_wp2_with (go_at_call 26; refine (mac_ref h (by decide) (by omega)).mono ?_; rw [HX.out]; clear h; rintro e w ⟨rfl, h⟩)); refine hK.out _ _ (fun _ => h.to) ?_; clear hK K
            try simp only [Act.put, List.setIfInBounds_toArray, List.set_cons_zero, List.set_cons_succ]
            refine wpAnyK_one (i := 11) (fuel := 0) rfl (by kernel_rfl) rfl (fun K hK => ?_)
            refine op_runs none rfl (ex_store h _ _ _ rfl _ _ rfl _ rfl) ?_; clear h; rintro _ w ⟨rfl, h⟩; refine hK.out _ _ (fun _ => h.to) ?_; clear hK K
            try simp only [Act.put, List.setIfInBounds_toArray, List.set_cons_zero, List.set_cons_succ]
            refine wpAnyK_done (by kernel_rfl) ?_
          rotate_left 1
        rotate_left 2
        focus
          refine op_runs (some 31) rfl (ex_slice1i h _ _ rfl _ _ rfl) ?_; clear h; rintro _ w ⟨gb, rfl, h⟩; replace h : St _ _ w (eBlk gb 5 (u8s [UInt8.ofNat (k + 1)]) :: _) := (by rw [show u8s [UInt8.ofNat (k + 1)] = [.int .u8 (((k + 1) % 256 : Nat) : Int)] by simp [u8s, u8v, Hk8.out]]; exact h); refine hK.out _ _ (fun _ => h.to) ?_; clear hK K
          try simp only [Act.put, List.setIfInBounds_toArray, List.set_cons_zero, List.set_cons_succ]
          refine wpAnyK_one (i := 2) (fuel := 4) rfl (by kernel_rfl) rfl (fun K hK => ?_)
          refine op_runs (some 26) rfl (ex_append_nil h _ _ _ rfl rfl A9 n9 c9 rfl (h.sl A9 n9 c9) (u8s_one _) (by simp [maxLen]; omega) (by omega)) ?_; clear h; rintro _ w ⟨A1, c1, rfl, h⟩; refine hK.out _ _ (fun _ => h.to) ?_; clear hK K
          try simp only [Act.put, List.setIfInBounds_toArray, List.set_cons_zero, List.set_cons_succ]
          refine wpAnyK_one (i := 4) (fuel := 3) rfl (by kernel_rfl) rfl (fun K hK => ?_)
          refine op_runs (some 28) rfl (ex_append h _ _ _ rfl A1 rfl A n c rfl (h.sl A n c) (u8s_one _) (by simp [maxLen]; omega) (by omega)) ?_; clear h; rintro _ w ⟨A2, c2, rfl, h⟩; rw [u8s_append] at h; refine hK.out _ _ (fun _ => h.to) ?_; clear hK K
          try simp only [Act.put, List.setIfInBounds_toArray, List.set_cons_zero, List.set_cons_succ]
          refine wpAnyK_one (i := 8) (fuel := 2) rfl (by kernel_rfl) rfl (fun K hK => ?_)
          refine op_runs (some 32) rfl (ex_append h _ _ _ rfl A2 rfl (some ⟨gb, 0, none⟩) 1 1 rfl (h.sl (some ⟨gb, 0, none⟩) 1 1) (u8s_one _) (by simp [maxLen]; omega) (by omega)) ?_; clear h; rintro _ w ⟨A3, c3, rfl, h⟩; rw [u8s_append] at h; refine hK.out _ _ (fun _ => h.to) ?_; clear hK K
          try simp only [Act.put, List.setIfInBounds_toArray, List.set_cons_zero, List.set_cons_succ]
          refine wpAnyK_one (i := 9) (fuel := 1) rfl (by kernel_rfl) rfl (fun K hK => ?_)
          (go_simp; go_wp2_with (go_at_call 26; refine (mac_ref h (by decide) (by omega)).mono ?_; rw [HX.out]; clear h; rintro e w ⟨rfl, h⟩)); refine hK.out _ _ (fun _ => h.to) ?_; clear hK K
          try simp only [Act.put, List.setIfInBounds_toArray, List.set_cons_zero, List.set_cons_succ]
          refine wpAnyK_one (i := 11) (fuel := 0) rfl (by kernel_rfl) rfl (fun K hK => ?_)
          refine op_runs none rfl (ex_store h _ _ _ rfl _ _ rfl _ rfl) ?_; clear h; rintro _ w ⟨rfl, h⟩; refine hK.out _ _ (fun _ => h.to) ?_; clear hK K
          try simp only [Act.put, List.setIfInBounds_toArray, List.set_cons_zero, List.set_cons_succ]
          refine wpAnyK_done (by kernel_rfl) ?_
        rotate_left 1
      rotate_left 3
      all_goals
        go_wp2_with (first
          | (refine wl_runs rfl (ex_append_nil h _ _ _ rfl rfl (some ⟨g, 0, none⟩) 32 32 rfl (h.sl (some ⟨g, 0, none⟩) 32 32) (u8s_one _) (by decide) (by decide)) ?_; clear h; rintro _ w ⟨A4, c4, rfl, h⟩)
          | (refine wl_runs rfl (ex_append h _ _ _ rfl A8 rfl A4 32 c4 rfl (h.sl A4 32 c4) (u8s_one _) (by simp [maxLen]; omega) (by omega)) ?_; clear h; rintro _ w ⟨A5, c5, rfl, h⟩; rw [u8s_append, ← Hch.out, ← HX2.out] at h)
          | (refine wl_reads rfl (ex_load1 h _ _ rfl _ _ rfl) ?_) | (refine wl_reads rfl (ex_load h _ _ rfl _ _ rfl) ?_) | (refine wl_runs rfl (ex_store1i h _ _ _ rfl _ _ rfl _ _ rfl) ?_; clear h; rintro _ w ⟨rfl, h⟩; try dsimp only [Act.put]) | (refine wl_runs rfl (ex_store1s h _ _ _ rfl _ _ rfl _ _ _ rfl) ?_; clear h; rintro _ w ⟨rfl, h⟩; try dsimp only [Act.put]) | (refine wl_runs rfl (ex_store1b h _ _ _ rfl _ _ rfl _ rfl) ?_; clear h; rintro _ w ⟨rfl, h⟩; try dsimp only [Act.put]) | (refine wl_runs rfl (ex_store1t h _ _ _ rfl _ _ rfl _ rfl) ?_; clear h; rintro _ w ⟨rfl, h⟩; try dsimp only [Act.put]) | (refine wl_runs rfl (ex_store1p h _ _ _ rfl _ _ rfl _ rfl) ?_; clear h; rintro _ w ⟨rfl, h⟩; try dsimp only [Act.put]) | (refine wl_runs rfl (ex_store1m h _ _ _ rfl _ _ rfl _ rfl) ?_; clear h; rintro _ w ⟨rfl, h⟩; try dsimp only [Act.put]) | (refine wl_runs rfl (ex_store h _ _ _ rfl _ _ rfl _ rfl) ?_; clear h; rintro _ w ⟨rfl, h⟩; try dsimp only [Act.put]) | (refine wl_runs rfl (ex_alloc h _ rfl) ?_; clear h; rintro _ w ⟨g, rfl, h⟩) | (refine wl_runs rfl (ex_box h _ _ rfl _ rfl) ?_; clear h; rintro _ w ⟨g, rfl, h⟩) | (refine wl_runs rfl (ex_box1i h _ _ rfl _ _ rfl) ?_; clear h; rintro _ w ⟨g, rfl, h⟩) | (refine wl_runs rfl (ex_box1s h _ _ rfl _ _ _ rfl) ?_; clear h; rintro _ w ⟨g, rfl, h⟩) | (refine wl_runs rfl (ex_box1b h _ _ rfl _ rfl) ?_; clear h; rintro _ w ⟨g, rfl, h⟩) | (refine wl_runs rfl (ex_box1t h _ _ rfl _ rfl) ?_; clear h; rintro _ w ⟨g, rfl, h⟩) | (refine wl_runs rfl (ex_box1p h _ _ rfl _ rfl) ?_; clear h; rintro _ w ⟨g, rfl, h⟩) | (refine wl_runs rfl (ex_box1m h _ _ rfl _ rfl) ?_; clear h; rintro _ w ⟨g, rfl, h⟩) | (refine wl_runs rfl (ex_slice1 h _ _ rfl _ rfl) ?_; clear h; rintro _ w ⟨g, rfl, h⟩) | (refine wl_runs rfl (ex_slice1i h _ _ rfl _ _ rfl) ?_; clear h; rintro _ w ⟨g, rfl, h⟩) | (refine wl_runs rfl (ex_slice1s h _ _ rfl _ _ _ rfl) ?_; clear h; rintro _ w ⟨g, rfl, h⟩) | (refine wl_runs rfl (ex_slice1b h _ _ rfl _ rfl) ?_; clear h; rintro _ w ⟨g, rfl, h⟩) | (refine wl_runs rfl (ex_slice1t h _ _ rfl _ rfl) ?_; clear h; rintro _ w ⟨g, rfl, h⟩) | (refine wl_runs rfl (ex_slice1p h _ _ rfl _ rfl) ?_; clear h; rintro _ w ⟨g, rfl, h⟩) | (refine wl_runs rfl (ex_slice1m h _ _ rfl _ rfl) ?_; clear h; rintro _ w ⟨g, rfl, h⟩) | (refine wl_reads rfl (ex_lit0 _ rfl) ?_))
        exact ⟨⟨k + 1, A5, c5, A4, 32, c4, rfl, rfl, by go_num, by omega, h.to⟩, by simp only [intOf]; omega⟩
    · have f3 : ¬ 32 * (k : Int) < (m : Int) := by omega
      have hmk : m ≤ 32 * k := by omega
      have f4 : m ≤ c8 := by
        have := (h.sl A8 (32 * k) c8).le
        omega
      have f5 : (m : Int) ≤ (c8 : Int) := by omega
      have f6 : (0 : Int) ≤ (m : Int) := by omega
      have hk2 : k = (m + 31) / 32 := by omega
      go_wp2
      refine bodyPost_ret (results_tmp2 rfl _ _ _) rfl ?_
      have h8 := h.cut A8 (by omega) hmk
      rw [Nat.mul_one, u8s_take, hk2, ← expandM] at h8
      exact ⟨A8, c8, rfl, h8.to⟩
end Go.Proofs.Ytjmjdffnakojpaa
