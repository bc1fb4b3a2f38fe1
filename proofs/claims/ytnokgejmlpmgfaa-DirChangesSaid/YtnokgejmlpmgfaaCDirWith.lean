/- Entries put in: the code. -/
import Derived.Test.YtnokgejmlpmgfaaCDirWithout
import Derived.Test.YtnokgejmlpmgfaaCDirGood2
import Derived.Test.YtnokgejmlpmgfaaCInsEnt
namespace Go.Proofs.Ytnokgejmlpmgfaa
open Go.RowKit
set_option linter.unusedVariables false
set_option linter.unusedSimpArgs false

set_option maxRecDepth 100000 in
set_option maxHeartbeats 4000000 in
theorem with_code {S : Nat → Prop} {w0 w : World} {L : List Ent} {A : Option Addr} {c : Nat} {l : List En} {e : En} (h : St S w0 w L) [ka : HasSl L A l.length c 100 (l.flatMap enK)] (hl : l.length ≤ 1000) :
    Calls Try.prog 39 #[.slice A l.length c, .agg (enK e).toArray] w fun r w' => ∃ A' c', r = .returned (.slice A' (withM l e).length c') ∧ St S w0 w' (eOwn 87 100 A' (withM l e).length c' ((withM l e).flatMap enK) :: L) := by
  have HE := Lib.hid (fun A B C => withM_length l e : ∀ A B C : Nat, (withM l e).length = (keepE l e).length + 1)
  obtain ⟨W, hW⟩ : ∃ W, withM l e = W := ⟨_, rfl⟩
  rw [hW] at HE ⊢
  obtain ⟨eb, en, ek, ei, ey, er, ee⟩ := e
  obtain ⟨K, hK⟩ : ∃ K : List En → List En, (fun m => keepE m ⟨eb, en, ek, ei, ey, er, ee⟩) = K := ⟨_, rfl⟩
  have hKl : keepE l ⟨eb, en, ek, ei, ey, er, ee⟩ = K l := congrFun hK l
  have HK := Lib.hid (fun m => congrFun hK m : ∀ m, keepE m ⟨eb, en, ek, ei, ey, er, ee⟩ = K m)
  have HW := Lib.hid hW
  have q1 : Row (u8s eb.1) 32 := Row.u32 eb
  have q2 : Row (u8s ei.1) 32 := Row.u32 ei
  have q3 : Row (u8s ey.1) 32 := Row.u32 ey
  have honeE := (enK_row ⟨eb, en, ek, ei, ey, er, ee⟩).one
  clear hK hKl hW
  go_enter Try.func39, Try.ntmps39
  go_wp2_with (first
    | (refine wl_at 3 rfl ?_; refine wl_runs rfl (ex_box h 87 _ rfl (enK ⟨eb, en, ek, ei, ey, er, ee⟩) rfl) ?_; clear h; rintro _ w ⟨ge, rfl, h⟩))
  replace h := h.nilRow 87 100
  go_loopw [5, 11] (fun v iv wr => ∃ (k : Nat) (A1 : Option Addr) (c1 : Nat) (acc : List En), v = .slice A1 acc.length c1 ∧ iv = .int .i64 (k : Int) ∧ k ≤ l.length ∧ acc.length ≤ k ∧ Hid (K (l.take k) = acc) ∧ St S w0 wr (eOwn 87 100 A1 acc.length c1 (acc.flatMap enK) :: eBlk ge 87 (enK ⟨eb, en, ek, ei, ey, er, ee⟩) :: L)) (fun _ iv _ => l.length - (intOf iv).toNat)
  case atStart => exact ⟨0, none, 0, [], rfl, rfl, Nat.zero_le _, Nat.le_refl _, Lib.hid (by rw [← HK.out]; simp [keepE]), h⟩
  case round =>
    clear h
    obtain ⟨k, A1, c1, acc, rfl, rfl, hk, hak, Hacc, h⟩ := hrel
    by_cases hkl : k < l.length
    · have f2 : (k : Int) < (l.length : Int) := by omega
      have t1 : ((k : Int)).toNat = k := by omega
      obtain ⟨x, hx⟩ : ∃ x, l[k] = x := ⟨_, rfl⟩
      obtain ⟨b, off, rfl, _⟩ := (h.sl A l.length c).pos (by omega)
      have hcs : ∀ w, Sl w (some ⟨b, off, none⟩) l.length c 100 (l.flatMap enK) → Cells w b (off + k * 100) (enK x) := fun w hs => by rw [← hx]; exact hs.elemAt enK_length hkl (by omega)
      have Hcs := Lib.hid hcs
      have hnx := keepE_next (e := ⟨eb, en, ek, ei, ey, er, ee⟩) hkl hx
      rw [HK.out, HK.out, Hacc.out] at hnx
      simp only at hnx
      obtain ⟨B, hB⟩ : ∃ B, (!(x.name == en)) = B := ⟨_, rfl⟩
      obtain ⟨B2, hB2⟩ : ∃ B2, (!(x.blind.1 == eb.1)) = B2 := ⟨_, rfl⟩
      rw [hB, hB2] at hnx
      have hst : (!((str x.name).toList == (str en).toList)) = B := by rw [str_toList, str_toList]; exact hB
      have hone := (enK_row x).one
      have Hlen := Lib.hid (show (acc ++ [x]).length = acc.length + 1 by simp)
      have Hflat := Lib.hid (show (acc ++ [x]).flatMap enK = acc.flatMap enK ++ enK x by simp)
      obtain ⟨xb, xn, xk, xi, xy, xr, xe⟩ := x
      simp only at hst hB2
      have r1 : Row (u8s xb.1) 32 := Row.u32 xb
      have r2 : Row (u8s xi.1) 32 := Row.u32 xi
      have r3 : Row (u8s xy.1) 32 := Row.u32 xy
      clear hcs hx hB
      by_cases hBB : B = true ∧ B2 = true
      · obtain ⟨rfl, rfl⟩ := hBB
        have Hnx := Lib.hid (by simpa using hnx : K (l.take (k + 1)) = acc ++ [(⟨xb, xn, xk, xi, xy, xr, xe⟩ : En)])
        clear hnx
        go_wp2_with (first | (refine wl_at 25 rfl ?_; refine wl_reads rfl (ex_neq _ _ _ _ rfl xb.1 eb.1 rfl rfl xb.2 eb.2 true hB2) ?_) | (refine wl_at 14 rfl ?_; refine wl_reads rfl (ex_load_at _ _ rfl b (off + k * 100) rfl (enK ⟨xb, xn, xk, xi, xy, xr, xe⟩) (enK_length _) (Hcs.out _ (h.sl (some ⟨b, off, none⟩) l.length c))) ?_) | (refine wl_at 7 rfl ?_; refine wl_runs rfl (ex_alloc h 87 rfl) ?_; clear h; rintro _ w ⟨g, rfl, h⟩) | (refine wl_none rfl ?_; refine wl_runs rfl (ex_store h _ _ _ rfl _ _ rfl (enK ⟨xb, xn, xk, xi, xy, xr, xe⟩) rfl) ?_; clear h; rintro _ w ⟨rfl, h⟩; try dsimp only [Act.put]) | (refine wl_at 16 rfl ?_; refine wl_reads rfl (ex_loadv h _ _ rfl _ _ rfl) ?_) | (refine wl_at 18 rfl ?_; refine wl_reads rfl (ex_loadv h _ _ rfl _ _ rfl) ?_) | (refine wl_at 22 rfl ?_; refine wl_reads rfl (ex_loadv h _ _ rfl _ _ rfl) ?_) | (refine wl_at 24 rfl ?_; refine wl_reads rfl (ex_loadv h _ _ rfl _ _ rfl) ?_) | (refine wl_at 25 rfl ?_; refine wl_reads rfl (ex_neq _ _ _ _ rfl xb.1 eb.1 rfl rfl xb.2 eb.2 B2 hB2) ?_) | (refine wl_at 28 rfl ?_; refine wl_reads rfl (ex_loadv h _ _ rfl _ _ rfl) ?_) | (refine wl_at 29 rfl ?_; refine wl_runs rfl (ex_slice1 h _ _ rfl (enK ⟨xb, xn, xk, xi, xy, xr, xe⟩) rfl) ?_; clear h; rintro _ w ⟨gq, rfl, h⟩) | (refine wl_at 30 rfl ?_; refine wl_runs rfl (ex_append h _ _ _ rfl A1 rfl (some ⟨gq, 0, none⟩) 1 1 rfl (h.slBox gq) hone (by simp [maxLen]; omega) (by omega)) ?_; clear h; rintro _ w ⟨A2, c2, rfl, h⟩))
        refine ⟨⟨k + 1, A2, c2, _, by rw [Hlen.out], by push_cast; rfl, by omega, by rw [Hlen.out]; omega, Hnx, by rw [Hflat.out, Hlen.out]; exact h.to⟩, ?_⟩
        simp only [intOf]
        omega
      · have Hnx := Lib.hid (by
          have hf : (B && B2) = false := by cases B <;> cases B2 <;> simp_all
          rw [if_neg (by rw [hf]; simp)] at hnx
          exact hnx : K (l.take (k + 1)) = acc)
        clear hnx
        cases B with
        | false =>
          clear hB2 hBB
          go_wp2_with (first | (refine wl_at 14 rfl ?_; refine wl_reads rfl (ex_load_at _ _ rfl b (off + k * 100) rfl (enK ⟨xb, xn, xk, xi, xy, xr, xe⟩) (enK_length _) (Hcs.out _ (h.sl (some ⟨b, off, none⟩) l.length c))) ?_) | (refine wl_at 7 rfl ?_; refine wl_runs rfl (ex_alloc h 87 rfl) ?_; clear h; rintro _ w ⟨g, rfl, h⟩) | (refine wl_none rfl ?_; refine wl_runs rfl (ex_store h _ _ _ rfl _ _ rfl (enK ⟨xb, xn, xk, xi, xy, xr, xe⟩) rfl) ?_; clear h; rintro _ w ⟨rfl, h⟩; try dsimp only [Act.put]) | (refine wl_at 16 rfl ?_; refine wl_reads rfl (ex_loadv h _ _ rfl _ _ rfl) ?_) | (refine wl_at 18 rfl ?_; refine wl_reads rfl (ex_loadv h _ _ rfl _ _ rfl) ?_) | (refine wl_at 22 rfl ?_; refine wl_reads rfl (ex_loadv h _ _ rfl _ _ rfl) ?_) | (refine wl_at 24 rfl ?_; refine wl_reads rfl (ex_loadv h _ _ rfl _ _ rfl) ?_) | (refine wl_at 25 rfl ?_; refine wl_reads rfl (ex_neq _ _ _ _ rfl xb.1 eb.1 rfl rfl xb.2 eb.2 B2 hB2) ?_) | (refine wl_at 28 rfl ?_; refine wl_reads rfl (ex_loadv h _ _ rfl _ _ rfl) ?_) | (refine wl_at 29 rfl ?_; refine wl_runs rfl (ex_slice1 h _ _ rfl (enK ⟨xb, xn, xk, xi, xy, xr, xe⟩) rfl) ?_; clear h; rintro _ w ⟨gq, rfl, h⟩) | (refine wl_at 30 rfl ?_; refine wl_runs rfl (ex_append h _ _ _ rfl A1 rfl (some ⟨gq, 0, none⟩) 1 1 rfl (h.slBox gq) hone (by simp [maxLen]; omega) (by omega)) ?_; clear h; rintro _ w ⟨A2, c2, rfl, h⟩))
          refine ⟨⟨k + 1, A1, c1, acc, rfl, by push_cast; rfl, by omega, by omega, Hnx, h.to⟩, ?_⟩
          simp only [intOf]
          omega
        | true =>
          cases B2 with
          | true => exact absurd ⟨rfl, rfl⟩ hBB
          | false =>
            clear hBB
            go_wp2_with (first | (refine wl_at 25 rfl ?_; refine wl_reads rfl (ex_neq _ _ _ _ rfl xb.1 eb.1 rfl rfl xb.2 eb.2 false hB2) ?_) | (refine wl_at 14 rfl ?_; refine wl_reads rfl (ex_load_at _ _ rfl b (off + k * 100) rfl (enK ⟨xb, xn, xk, xi, xy, xr, xe⟩) (enK_length _) (Hcs.out _ (h.sl (some ⟨b, off, none⟩) l.length c))) ?_) | (refine wl_at 7 rfl ?_; refine wl_runs rfl (ex_alloc h 87 rfl) ?_; clear h; rintro _ w ⟨g, rfl, h⟩) | (refine wl_none rfl ?_; refine wl_runs rfl (ex_store h _ _ _ rfl _ _ rfl (enK ⟨xb, xn, xk, xi, xy, xr, xe⟩) rfl) ?_; clear h; rintro _ w ⟨rfl, h⟩; try dsimp only [Act.put]) | (refine wl_at 16 rfl ?_; refine wl_reads rfl (ex_loadv h _ _ rfl _ _ rfl) ?_) | (refine wl_at 18 rfl ?_; refine wl_reads rfl (ex_loadv h _ _ rfl _ _ rfl) ?_) | (refine wl_at 22 rfl ?_; refine wl_reads rfl (ex_loadv h _ _ rfl _ _ rfl) ?_) | (refine wl_at 24 rfl ?_; refine wl_reads rfl (ex_loadv h _ _ rfl _ _ rfl) ?_) | (refine wl_at 25 rfl ?_; refine wl_reads rfl (ex_neq _ _ _ _ rfl xb.1 eb.1 rfl rfl xb.2 eb.2 B2 hB2) ?_) | (refine wl_at 28 rfl ?_; refine wl_reads rfl (ex_loadv h _ _ rfl _ _ rfl) ?_) | (refine wl_at 29 rfl ?_; refine wl_runs rfl (ex_slice1 h _ _ rfl (enK ⟨xb, xn, xk, xi, xy, xr, xe⟩) rfl) ?_; clear h; rintro _ w ⟨gq, rfl, h⟩) | (refine wl_at 30 rfl ?_; refine wl_runs rfl (ex_append h _ _ _ rfl A1 rfl (some ⟨gq, 0, none⟩) 1 1 rfl (h.slBox gq) hone (by simp [maxLen]; omega) (by omega)) ?_; clear h; rintro _ w ⟨A2, c2, rfl, h⟩))
            refine ⟨⟨k + 1, A1, c1, acc, rfl, by push_cast; rfl, by omega, by omega, Hnx, h.to⟩, ?_⟩
            simp only [intOf]
            omega
    · obtain rfl : k = l.length := by omega
      have hkk : ¬ ((l.length : Int) < (l.length : Int)) := by omega
      have hfin := Hacc.out
      rw [List.take_length] at hfin
      have Hfin := Lib.hid hfin
      clear hkl hfin Hacc
      go_wp2
      go_loopw [8] (fun iv wr => ∃ k : Nat, iv = .int .i64 (k : Int) ∧ k ≤ acc.length ∧ Hid (∀ j (hj : j < acc.length), j < k → lessI acc[j].blind eb = true) ∧ St S w0 wr (eOwn 87 100 A1 acc.length c1 (acc.flatMap enK) :: eBlk ge 87 (enK ⟨eb, en, ek, ei, ey, er, ee⟩) :: L)) (fun iv _ => acc.length - (intOf iv).toNat)
      case atStart => exact ⟨0, rfl, Nat.zero_le _, Lib.hid (fun j hj h => by omega), h⟩
      case round =>
        clear h
        obtain ⟨k, rfl, hka, Hlow, h⟩ := hrel
        have t1 : ((k : Int)).toNat = k := by omega
        by_cases hstop : k < acc.length ∧ (∀ hh : k < acc.length, lessI acc[k].blind eb = true)
        · obtain ⟨hkl, hless⟩ := hstop
          have hless1 := hless hkl
          have f1 : decide ((k : Int) < (acc.length : Int)) = true := by simp; omega
          have f1n : decide (k < acc.length) = true := by simp; omega
          have f2 : (k : Int) < (acc.length : Int) := by omega
          obtain ⟨p, hp⟩ : ∃ p, acc[k] = p := ⟨_, rfl⟩
          rw [hp] at hless1
          obtain ⟨b, off, rfl, _⟩ := (h.sl A1 acc.length c1).pos (by omega)
          have hcp : ∀ w, Sl w (some ⟨b, off, none⟩) acc.length c1 100 (acc.flatMap enK) → Cells w b (off + k * 100) (u8s p.blind.1) := fun w hs => cells_pre (xs := u8s p.blind.1) (by
            have h5 := hs.elemAt enK_length hkl (by omega)
            rw [hp] at h5
            exact h5)
          have Hcp := Lib.hid hcp
          have Hpl := Lib.hid p.blind.2
          have Hlow2 : Hid (∀ j (hj : j < acc.length), j < k + 1 → lessI acc[j].blind eb = true) := Lib.hid (fun j hj h2 => by
            rcases Nat.lt_succ_iff_lt_or_eq.1 h2 with h3 | rfl
            · exact Hlow.out j hj h3
            · rw [hp]; exact hless1)
          obtain ⟨C, hC⟩ : ∃ C, Lib.compareBytes p.blind.1 eb.1 = C := ⟨_, rfl⟩
          have HC := Lib.hid hC
          have hc0 : decide (C < 0) = true := by rw [← hC, lessI_cmp, hless1]
          clear hcp hC hp hless hless1 hkk
          go_upto_region 9 with fail
          refine wp_region_K 15 (fun w' => St _ _ w' _) (by kernel_rfl) h.drew ?_; replace h := h.drew
          refine wpAnyK_pure 32 (v := ?_) (i := 0) (fuel := 14) rfl rfl (by kernel_rfl) (by kernel_rfl) (by kernel_rfl) (by decide) (fun _ _ _ h => h) (Or.inl ⟨by rfl, fun w _ => ?_⟩) ?_; rotate_left; (go_simp; with_reducible rfl); simp only [Act.put, List.setIfInBounds_toArray, List.set_cons_zero, List.set_cons_succ]
          refine wpAnyK_pure 33 (v := ?_) (i := 1) (fuel := 13) rfl rfl (by kernel_rfl) (by kernel_rfl) (by kernel_rfl) (by decide) (fun _ _ _ h => h) (Or.inl ⟨by rfl, fun w _ => ?_⟩) ?_; rotate_left; (go_simp; with_reducible rfl); simp only [Act.put, List.setIfInBounds_toArray, List.set_cons_zero, List.set_cons_succ]
          refine wpAnyK_pure 34 (v := ?_) (i := 2) (fuel := 12) rfl rfl (by kernel_rfl) (by kernel_rfl) (by kernel_rfl) (by decide) (fun _ _ _ h => h) (Or.inl ⟨by rfl, fun w _ => ?_⟩) ?_; rotate_left; (go_simp; with_reducible rfl); simp only [Act.put, List.setIfInBounds_toArray, List.set_cons_zero, List.set_cons_succ]
          refine wpAnyK_pure 35 (v := (.bool true)) (i := 3) (fuel := 11) rfl rfl (by kernel_rfl) (by kernel_rfl) (by kernel_rfl) (by decide) (fun _ _ _ h => h) (Or.inl ⟨by rfl, fun w _ => (by go_simp)⟩) ?_; simp only [Act.put, List.setIfInBounds_toArray, List.set_cons_zero, List.set_cons_succ]
          refine wpAnyK_pure 36 (v := ?_) (i := 4) (fuel := 10) rfl rfl (by kernel_rfl) (by kernel_rfl) (by kernel_rfl) (by decide) (fun _ _ _ h => h) (Or.inl ⟨by rfl, fun w _ => ?_⟩) ?_; rotate_left; (go_simp; with_reducible rfl); simp only [Act.put, List.setIfInBounds_toArray, List.set_cons_zero, List.set_cons_succ]
          refine wpAnyK_pure 37 (v := ?_) (i := 5) (fuel := 9) rfl rfl (by kernel_rfl) (by kernel_rfl) (by kernel_rfl) (by decide) (fun _ _ _ h => h) (Or.inl ⟨by rfl, fun w _ => ?_⟩) ?_; rotate_left; (go_simp; with_reducible rfl); simp only [Act.put, List.setIfInBounds_toArray, List.set_cons_zero, List.set_cons_succ]
          refine wpAnyK_pure 38 (v := ?_) (i := 6) (fuel := 8) rfl rfl (by kernel_rfl) (by kernel_rfl) (by kernel_rfl) (by decide) (fun _ _ _ h => h) (Or.inl ⟨by rfl, fun w _ => ?_⟩) ?_; rotate_left; (go_simp; with_reducible rfl); simp only [Act.put, List.setIfInBounds_toArray, List.set_cons_zero, List.set_cons_succ]
          refine wpAnyK_pure 39 (v := ?_) (i := 7) (fuel := 7) rfl rfl (by kernel_rfl) (by kernel_rfl) (by kernel_rfl) (by decide) (fun _ _ _ h => h) (Or.inl ⟨by rfl, fun w _ => ?_⟩) ?_; rotate_left; (go_simp; with_reducible rfl); simp only [Act.put, List.setIfInBounds_toArray, List.set_cons_zero, List.set_cons_succ]
          refine wpAnyK_pure 40 (v := ?_) (i := 8) (fuel := 6) rfl rfl (by kernel_rfl) (by kernel_rfl) (by kernel_rfl) (by decide) (fun _ _ _ h => h) (Or.inl ⟨by rfl, fun w _ => ?_⟩) ?_; rotate_left; (go_simp; with_reducible rfl); simp only [Act.put, List.setIfInBounds_toArray, List.set_cons_zero, List.set_cons_succ]
          refine wpAnyK_load 41 (i := 9) (fuel := 5) rfl rfl (by kernel_rfl) (by kernel_rfl) (by kernel_rfl) (.inr (by decide)) (by decide) (fun _ _ _ h => h) rfl (fun w h => ex_load_at _ _ rfl b (off + k * 100) rfl (u8s p.blind.1) (by rw [u8s_length, Hpl.out]) (Hcp.out _ (h.sl (some ⟨b, off, none⟩) acc.length c1))) ?_; simp only [Act.put, List.setIfInBounds_toArray, List.set_cons_zero, List.set_cons_succ]
          refine wpAnyK_pure 42 (v := ?_) (i := 10) (fuel := 4) rfl rfl (by kernel_rfl) (by kernel_rfl) (by kernel_rfl) (by decide) (fun _ _ _ h => h) (Or.inl ⟨by rfl, fun w _ => ?_⟩) ?_; rotate_left; (go_simp; with_reducible rfl); simp only [Act.put, List.setIfInBounds_toArray, List.set_cons_zero, List.set_cons_succ]
          refine wpAnyK_load 43 (i := 11) (fuel := 3) rfl rfl (by kernel_rfl) (by kernel_rfl) (by kernel_rfl) (.inr (by decide)) (by decide) (fun _ _ _ h => h) rfl (fun w h => ex_loadv h _ _ rfl _ _ rfl) ?_; simp only [Act.put, List.setIfInBounds_toArray, List.set_cons_zero, List.set_cons_succ]
          refine wpAnyK_one (i := 12) (fuel := 2) rfl (by kernel_rfl) rfl (fun K hK => ?_)
          (go_simp; go_wp2_with (go_at_call 59; refine (order_code (a := p.blind) (b := eb)).mono ?_; rw [HC.out]; rintro r w ⟨rfl, hs⟩; replace h := h.quiet hs; clear hs)); refine hK.out _ _ (fun _ => h.to) ?_; clear hK K
          try simp only [Act.put, List.setIfInBounds_toArray, List.set_cons_zero, List.set_cons_succ]
          refine wpAnyK_pure 45 (v := ?_) (i := 13) (fuel := 1) rfl rfl (by kernel_rfl) (by kernel_rfl) (by kernel_rfl) (by decide) (fun _ _ _ h => h) (Or.inl ⟨by rfl, fun w _ => ?_⟩) ?_; rotate_left; (go_simp; with_reducible rfl); simp only [Act.put, List.setIfInBounds_toArray, List.set_cons_zero, List.set_cons_succ]
          refine wpAnyK_pure 46 (v := ?_) (i := 14) (fuel := 0) rfl rfl (by kernel_rfl) (by kernel_rfl) (by kernel_rfl) (by decide) (fun _ _ _ h => h) (Or.inl ⟨by rfl, fun w _ => ?_⟩) ?_; rotate_left; (go_simp; with_reducible rfl); simp only [Act.put, List.setIfInBounds_toArray, List.set_cons_zero, List.set_cons_succ]
          refine wpAnyK_done (by kernel_rfl) ?_
          go_wp2
          refine ⟨⟨k + 1, by push_cast; rfl, by omega, Hlow2, h.to⟩, ?_⟩
          simp only [intOf]
          omega
        · have hat : k = atE acc ⟨eb, en, ek, ei, ey, er, ee⟩ := atE_eq hka (fun j hj hjk => Hlow.out j hj hjk) (fun h9 => by
            cases h8 : lessI acc[k].blind eb with
            | false => rfl
            | true => exact absurd ⟨h9, fun _ => h8⟩ hstop)
          have hKW : (acc.take k ++ [(⟨eb, en, ek, ei, ey, er, ee⟩ : En)] ++ acc.drop k) = W := by
            rw [← HW.out, withM, HK.out, Hfin.out, ← hat]
          have hWl : W.length = acc.length + 1 := by rw [HE.out 0 0 0, HK.out, Hfin.out]
          have Hil := Lib.hid (by rw [← hKW]; exact insE_list hka : (acc.flatMap enK).take (k * 100) ++ enK ⟨eb, en, ek, ei, ey, er, ee⟩ ++ (acc.flatMap enK).drop (k * 100) = W.flatMap enK)
          have HWl := Lib.hid hWl
          have Hane := Lib.hid (fun u hu => by
            obtain ⟨y, hy, hu⟩ := List.mem_flatMap.1 hu
            exact (enK_row y).one u hu : ∀ u ∈ acc.flatMap enK, u.oneCell' = true)
          by_cases hkl : k < acc.length
          · have f1 : decide ((k : Int) < (acc.length : Int)) = true := by simp; omega
            have f2 : (k : Int) < (acc.length : Int) := by omega
            have hless1 : lessI acc[k].blind eb = false := by
              cases h8 : lessI acc[k].blind eb with
              | false => rfl
              | true => exact absurd ⟨hkl, fun _ => h8⟩ hstop
            obtain ⟨p, hp⟩ : ∃ p, acc[k] = p := ⟨_, rfl⟩
            rw [hp] at hless1
            obtain ⟨b, off, rfl, _⟩ := (h.sl A1 acc.length c1).pos (by omega)
            have hcp : ∀ w, Sl w (some ⟨b, off, none⟩) acc.length c1 100 (acc.flatMap enK) → Cells w b (off + k * 100) (u8s p.blind.1) := fun w hs => cells_pre (xs := u8s p.blind.1) (by
              have h5 := hs.elemAt enK_length hkl (by omega)
              rw [hp] at h5
              exact h5)
            have Hcp := Lib.hid hcp
            have Hpl := Lib.hid p.blind.2
            obtain ⟨C, hC⟩ : ∃ C, Lib.compareBytes p.blind.1 eb.1 = C := ⟨_, rfl⟩
            have HC := Lib.hid hC
            have hc0 : decide (C < 0) = false := by rw [← hC, lessI_cmp, hless1]
            clear hcp hC hp hless1 hkk hKW hWl hat hstop
            go_upto_region 9 with fail
            refine wp_region_K 15 (fun w' => St _ _ w' _) (by kernel_rfl) h.drew ?_; replace h := h.drew
            refine wpAnyK_pure 32 (v := ?_) (i := 0) (fuel := 14) rfl rfl (by kernel_rfl) (by kernel_rfl) (by kernel_rfl) (by decide) (fun _ _ _ h => h) (Or.inl ⟨by rfl, fun w _ => ?_⟩) ?_; rotate_left; (go_simp; with_reducible rfl); simp only [Act.put, List.setIfInBounds_toArray, List.set_cons_zero, List.set_cons_succ]
            refine wpAnyK_pure 33 (v := ?_) (i := 1) (fuel := 13) rfl rfl (by kernel_rfl) (by kernel_rfl) (by kernel_rfl) (by decide) (fun _ _ _ h => h) (Or.inl ⟨by rfl, fun w _ => ?_⟩) ?_; rotate_left; (go_simp; with_reducible rfl); simp only [Act.put, List.setIfInBounds_toArray, List.set_cons_zero, List.set_cons_succ]
            refine wpAnyK_pure 34 (v := ?_) (i := 2) (fuel := 12) rfl rfl (by kernel_rfl) (by kernel_rfl) (by kernel_rfl) (by decide) (fun _ _ _ h => h) (Or.inl ⟨by rfl, fun w _ => ?_⟩) ?_; rotate_left; (go_simp; with_reducible rfl); simp only [Act.put, List.setIfInBounds_toArray, List.set_cons_zero, List.set_cons_succ]
            refine wpAnyK_pure 35 (v := (.bool true)) (i := 3) (fuel := 11) rfl rfl (by kernel_rfl) (by kernel_rfl) (by kernel_rfl) (by decide) (fun _ _ _ h => h) (Or.inl ⟨by rfl, fun w _ => (by go_simp)⟩) ?_; simp only [Act.put, List.setIfInBounds_toArray, List.set_cons_zero, List.set_cons_succ]
            refine wpAnyK_pure 36 (v := ?_) (i := 4) (fuel := 10) rfl rfl (by kernel_rfl) (by kernel_rfl) (by kernel_rfl) (by decide) (fun _ _ _ h => h) (Or.inl ⟨by rfl, fun w _ => ?_⟩) ?_; rotate_left; (go_simp; with_reducible rfl); simp only [Act.put, List.setIfInBounds_toArray, List.set_cons_zero, List.set_cons_succ]
            refine wpAnyK_pure 37 (v := ?_) (i := 5) (fuel := 9) rfl rfl (by kernel_rfl) (by kernel_rfl) (by kernel_rfl) (by decide) (fun _ _ _ h => h) (Or.inl ⟨by rfl, fun w _ => ?_⟩) ?_; rotate_left; (go_simp; with_reducible rfl); simp only [Act.put, List.setIfInBounds_toArray, List.set_cons_zero, List.set_cons_succ]
            refine wpAnyK_pure 38 (v := ?_) (i := 6) (fuel := 8) rfl rfl (by kernel_rfl) (by kernel_rfl) (by kernel_rfl) (by decide) (fun _ _ _ h => h) (Or.inl ⟨by rfl, fun w _ => ?_⟩) ?_; rotate_left; (go_simp; with_reducible rfl); simp only [Act.put, List.setIfInBounds_toArray, List.set_cons_zero, List.set_cons_succ]
            refine wpAnyK_pure 39 (v := ?_) (i := 7) (fuel := 7) rfl rfl (by kernel_rfl) (by kernel_rfl) (by kernel_rfl) (by decide) (fun _ _ _ h => h) (Or.inl ⟨by rfl, fun w _ => ?_⟩) ?_; rotate_left; (go_simp; with_reducible rfl); simp only [Act.put, List.setIfInBounds_toArray, List.set_cons_zero, List.set_cons_succ]
            refine wpAnyK_pure 40 (v := ?_) (i := 8) (fuel := 6) rfl rfl (by kernel_rfl) (by kernel_rfl) (by kernel_rfl) (by decide) (fun _ _ _ h => h) (Or.inl ⟨by rfl, fun w _ => ?_⟩) ?_; rotate_left; (go_simp; with_reducible rfl); simp only [Act.put, List.setIfInBounds_toArray, List.set_cons_zero, List.set_cons_succ]
            refine wpAnyK_load 41 (i := 9) (fuel := 5) rfl rfl (by kernel_rfl) (by kernel_rfl) (by kernel_rfl) (.inr (by decide)) (by decide) (fun _ _ _ h => h) rfl (fun w h => ex_load_at _ _ rfl b (off + k * 100) rfl (u8s p.blind.1) (by rw [u8s_length, Hpl.out]) (Hcp.out _ (h.sl (some ⟨b, off, none⟩) acc.length c1))) ?_; simp only [Act.put, List.setIfInBounds_toArray, List.set_cons_zero, List.set_cons_succ]
            refine wpAnyK_pure 42 (v := ?_) (i := 10) (fuel := 4) rfl rfl (by kernel_rfl) (by kernel_rfl) (by kernel_rfl) (by decide) (fun _ _ _ h => h) (Or.inl ⟨by rfl, fun w _ => ?_⟩) ?_; rotate_left; (go_simp; with_reducible rfl); simp only [Act.put, List.setIfInBounds_toArray, List.set_cons_zero, List.set_cons_succ]
            refine wpAnyK_load 43 (i := 11) (fuel := 3) rfl rfl (by kernel_rfl) (by kernel_rfl) (by kernel_rfl) (.inr (by decide)) (by decide) (fun _ _ _ h => h) rfl (fun w h => ex_loadv h _ _ rfl _ _ rfl) ?_; simp only [Act.put, List.setIfInBounds_toArray, List.set_cons_zero, List.set_cons_succ]
            refine wpAnyK_one (i := 12) (fuel := 2) rfl (by kernel_rfl) rfl (fun K hK => ?_)
            (go_simp; go_wp2_with (go_at_call 59; refine (order_code (a := p.blind) (b := eb)).mono ?_; rw [HC.out]; rintro r w ⟨rfl, hs⟩; replace h := h.quiet hs; clear hs)); refine hK.out _ _ (fun _ => h.to) ?_; clear hK K
            try simp only [Act.put, List.setIfInBounds_toArray, List.set_cons_zero, List.set_cons_succ]
            refine wpAnyK_pure 45 (v := ?_) (i := 13) (fuel := 1) rfl rfl (by kernel_rfl) (by kernel_rfl) (by kernel_rfl) (by decide) (fun _ _ _ h => h) (Or.inl ⟨by rfl, fun w _ => ?_⟩) ?_; rotate_left; (go_simp; with_reducible rfl); simp only [Act.put, List.setIfInBounds_toArray, List.set_cons_zero, List.set_cons_succ]
            refine wpAnyK_pure 46 (v := ?_) (i := 14) (fuel := 0) rfl rfl (by kernel_rfl) (by kernel_rfl) (by kernel_rfl) (by decide) (fun _ _ _ h => h) (Or.inl ⟨by rfl, fun w _ => ?_⟩) ?_; rotate_left; (go_simp; with_reducible rfl); simp only [Act.put, List.setIfInBounds_toArray, List.set_cons_zero, List.set_cons_succ]
            refine wpAnyK_done (by kernel_rfl) ?_
            go_wp2_with (first
              | (refine wl_at 51 rfl ?_; refine wl_reads rfl (ex_loadv h _ _ rfl _ _ rfl) ?_)
              | (refine wl_at 52 rfl ?_; refine wl_runs rfl (ex_slice1 h _ _ rfl (enK ⟨eb, en, ek, ei, ey, er, ee⟩) rfl) ?_; clear h; rintro _ w ⟨gq, rfl, h⟩)
              | (go_at_call 85; refine (insE_code (A := some ⟨b, off, none⟩) (n := acc.length) (c := c1) (i := k) (gb := gq) h hka (by omega) (enK_length ⟨eb, en, ek, ei, ey, er, ee⟩) honeE Hane.out).mono ?_; rw [Hil.out]; clear h; rintro r w ⟨A5, c5, rfl, h⟩))
            go_ret
            rw [HWl.out]
            exact ⟨A5, c5, rfl, h.to⟩
          · have f1 : decide ((k : Int) < (acc.length : Int)) = false := by simp; omega
            clear hkk hKW hWl hat hstop
            go_upto_region 9 with fail
            refine wp_region_K 15 (fun w' => St _ _ w' _) (by kernel_rfl) h.drew ?_; replace h := h.drew
            refine wpAnyK_pure 32 (v := ?_) (i := 0) (fuel := 14) rfl rfl (by kernel_rfl) (by kernel_rfl) (by kernel_rfl) (by decide) (fun _ _ _ h => h) (Or.inl ⟨by rfl, fun w _ => ?_⟩) ?_; rotate_left; (go_simp; with_reducible rfl); simp only [Act.put, List.setIfInBounds_toArray, List.set_cons_zero, List.set_cons_succ]
            refine wpAnyK_pure 33 (v := ?_) (i := 1) (fuel := 13) rfl rfl (by kernel_rfl) (by kernel_rfl) (by kernel_rfl) (by decide) (fun _ _ _ h => h) (Or.inl ⟨by rfl, fun w _ => ?_⟩) ?_; rotate_left; (go_simp; with_reducible rfl); simp only [Act.put, List.setIfInBounds_toArray, List.set_cons_zero, List.set_cons_succ]
            refine wpAnyK_pure 34 (v := ?_) (i := 2) (fuel := 12) rfl rfl (by kernel_rfl) (by kernel_rfl) (by kernel_rfl) (by decide) (fun _ _ _ h => h) (Or.inl ⟨by rfl, fun w _ => ?_⟩) ?_; rotate_left; (go_simp; with_reducible rfl); simp only [Act.put, List.setIfInBounds_toArray, List.set_cons_zero, List.set_cons_succ]
            refine wpAnyK_pure 35 (v := (.bool false)) (i := 3) (fuel := 11) rfl rfl (by kernel_rfl) (by kernel_rfl) (by kernel_rfl) (by decide) (fun _ _ _ h => h) (Or.inl ⟨by rfl, fun w _ => (by go_simp)⟩) ?_; simp only [Act.put, List.setIfInBounds_toArray, List.set_cons_zero, List.set_cons_succ]
            refine wpAnyK_pure 36 (v := ?_) (i := 4) (fuel := 10) rfl rfl (by kernel_rfl) (by kernel_rfl) (by kernel_rfl) (by decide) (fun _ _ _ h => h) (Or.inl ⟨by rfl, fun w _ => ?_⟩) ?_; rotate_left; (go_simp; with_reducible rfl); simp only [Act.put, List.setIfInBounds_toArray, List.set_cons_zero, List.set_cons_succ]
            refine wpAnyK_not 37 (i := 5) (fuel := 9) rfl rfl (by kernel_rfl) (by kernel_rfl) (by kernel_rfl) (by decide) (fun _ _ _ h => h) (by rfl) ?_; simp only [Act.put, List.setIfInBounds_toArray, List.set_cons_zero, List.set_cons_succ]
            refine wpAnyK_not 38 (i := 6) (fuel := 8) rfl rfl (by kernel_rfl) (by kernel_rfl) (by kernel_rfl) (by decide) (fun _ _ _ h => h) (by rfl) ?_; simp only [Act.put, List.setIfInBounds_toArray, List.set_cons_zero, List.set_cons_succ]
            refine wpAnyK_not 39 (i := 7) (fuel := 7) rfl rfl (by kernel_rfl) (by kernel_rfl) (by kernel_rfl) (by decide) (fun _ _ _ h => h) (by rfl) ?_; simp only [Act.put, List.setIfInBounds_toArray, List.set_cons_zero, List.set_cons_succ]
            refine wpAnyK_not 40 (i := 8) (fuel := 6) rfl rfl (by kernel_rfl) (by kernel_rfl) (by kernel_rfl) (by decide) (fun _ _ _ h => h) (by rfl) ?_; simp only [Act.put, List.setIfInBounds_toArray, List.set_cons_zero, List.set_cons_succ]
            refine wpAnyK_not 41 (i := 9) (fuel := 5) rfl rfl (by kernel_rfl) (by kernel_rfl) (by kernel_rfl) (by decide) (fun _ _ _ h => h) (by rfl) ?_; simp only [Act.put, List.setIfInBounds_toArray, List.set_cons_zero, List.set_cons_succ]
            refine wpAnyK_not 42 (i := 10) (fuel := 4) rfl rfl (by kernel_rfl) (by kernel_rfl) (by kernel_rfl) (by decide) (fun _ _ _ h => h) (by rfl) ?_; simp only [Act.put, List.setIfInBounds_toArray, List.set_cons_zero, List.set_cons_succ]
            refine wpAnyK_not 43 (i := 11) (fuel := 3) rfl rfl (by kernel_rfl) (by kernel_rfl) (by kernel_rfl) (by decide) (fun _ _ _ h => h) (by rfl) ?_; simp only [Act.put, List.setIfInBounds_toArray, List.set_cons_zero, List.set_cons_succ]
            refine wpAnyK_not 44 (i := 12) (fuel := 2) rfl rfl (by kernel_rfl) (by kernel_rfl) (by kernel_rfl) (by decide) (fun _ _ _ h => h) (by rfl) ?_; simp only [Act.put, List.setIfInBounds_toArray, List.set_cons_zero, List.set_cons_succ]
            refine wpAnyK_not 45 (i := 13) (fuel := 1) rfl rfl (by kernel_rfl) (by kernel_rfl) (by kernel_rfl) (by decide) (fun _ _ _ h => h) (by rfl) ?_; simp only [Act.put, List.setIfInBounds_toArray, List.set_cons_zero, List.set_cons_succ]
            refine wpAnyK_pure 46 (v := ?_) (i := 14) (fuel := 0) rfl rfl (by kernel_rfl) (by kernel_rfl) (by kernel_rfl) (by decide) (fun _ _ _ h => h) (Or.inl ⟨by rfl, fun w _ => ?_⟩) ?_; rotate_left; (go_simp; with_reducible rfl); simp only [Act.put, List.setIfInBounds_toArray, List.set_cons_zero, List.set_cons_succ]
            refine wpAnyK_done (by kernel_rfl) ?_
            go_wp2_with (first
              | (refine wl_at 51 rfl ?_; refine wl_reads rfl (ex_loadv h _ _ rfl _ _ rfl) ?_)
              | (refine wl_at 52 rfl ?_; refine wl_runs rfl (ex_slice1 h _ _ rfl (enK ⟨eb, en, ek, ei, ey, er, ee⟩) rfl) ?_; clear h; rintro _ w ⟨gq, rfl, h⟩)
              | (go_at_call 85; refine (insE_code (A := A1) (n := acc.length) (c := c1) (i := k) (gb := gq) h hka (by omega) (enK_length ⟨eb, en, ek, ei, ey, er, ee⟩) honeE Hane.out).mono ?_; rw [Hil.out]; clear h; rintro r w ⟨A5, c5, rfl, h⟩))
            go_ret
            rw [HWl.out]
            exact ⟨A5, c5, rfl, h.to⟩
end Go.Proofs.Ytnokgejmlpmgfaa
