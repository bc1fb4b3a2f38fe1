/- The reference's reader, walked. -/
import Derived.Test.YtnokgejmlpmgfaaCRdN
import Derived.Laws.Cover3
namespace Go.Proofs.Ytnokgejmlpmgfaa
open Go.RowKit
set_option linter.unusedVariables false
set_option linter.unusedSimpArgs false

section
variable {S : Nat → Prop} {w0 w : World} {L F : List Ent} {g : Nat} {R : Nat → Prop} {s : RS}
theorem rr_fail (h : St S w0 w L) [k : SlotR L g 139 false R s F] : Calls Try.prog 107 #[.pointer (some ⟨g, 0, none⟩)] w fun e w' => (∃ v, e = .returned v) ∧ St S w0 w' (eRd 139 false g R none :: F) := by
  obtain ⟨A, n, c, hb, hl, hR, hg⟩ := h.rdBlk g
  go_enter Try.func107, Try.ntmps107
  go_wp2_with (first
    | (refine wl_put _ rfl 25 _ _ rfl g 0 rfl (.slice none 0 0) rfl rfl rfl slice_size 139 _ hb (by simp) ?_; clear hb; intro w2 hb hS2; simp only [List.setIfInBounds_toArray, List.set_cons_zero] at hb)
    | (refine wl_put _ rfl 4 _ _ rfl g 1 rfl (.bool true) rfl rfl rfl flag_size 139 _ hb (by simp) ?_; clear hb; intro w3 hb hS3))
  go_end0
  exact ⟨⟨_, rfl⟩, h.setRd g (k := k) (hS2.tr hS3) (fun _ hk => (ft_nil hk).elim) hb (Sl.nil _ _)⟩

theorem and_part : ∀ {x : Nat}, x < 256 → bits .and .u64 (x : Int) 127 = ((x % 128 : Nat) : Int) := by
  have h : ∀ y : Fin 256, bits .and .u64 ((y.1 : Nat) : Int) 127 = ((y.1 % 128 : Nat) : Int) := by decide +kernel
  intro x hx
  exact h ⟨x, hx⟩

set_option maxRecDepth 100000 in
set_option maxHeartbeats 1000000 in
theorem rr_n (h : St S w0 w L) [k : SlotR L g 139 false R s F] {most : Nat} (hm : most < 2 ^ 64) : Calls Try.prog 76 #[.pointer (some ⟨g, 0, none⟩), .int .u64 (most : Int)] w fun e w' => e = .returned (.int .u64 ((numT most s).1 : Int)) ∧ St S w0 w' (eRd 139 false g R (numT most s).2 :: F) := by
  obtain ⟨A, n, c, hb, hl, hR, hg⟩ := h.rdBlk g
  obtain ⟨l, hl0⟩ : ∃ l, s.getD [] = l := ⟨_, rfl⟩
  rw [hl0] at hl
  have hn := hl.n_eq
  have Hn := Lib.hid hn
  have c0 : w.cell? ⟨g, 0, none⟩ = some (.slice A n c) := hb.cell 0
  clear hn
  have hcap := hl.cap
  obtain ⟨N, hN⟩ : ∃ N, numT most s = N := ⟨_, rfl⟩
  rw [hN]
  have hnone : takeN most l = none → N = (0, none) := fun e => by
    rw [← hN, numT]
    cases s with
    | none => rfl
    | some l' => simp only [Option.getD_some] at hl0; rw [Option.bind_some, hl0, e]
  have hsome : ∀ v r, takeN most l = some (v, r) → N = (v, some r) := fun v r e => by
    rw [← hN, numT]
    cases s with
    | none => simp only [Option.getD_none] at hl0; rw [← hl0] at e; cases e
    | some l' => simp only [Option.getD_some] at hl0; rw [Option.bind_some, hl0, e]
  have hgood : 0 < l.length → s.isSome = true := fun h0 => by
    cases s with
    | none => simp only [Option.getD_none] at hl0; rw [← hl0] at h0; cases h0
    | some l' => rfl
  have Hnone := Lib.hid hnone
  have Hsome := Lib.hid hsome
  have Hgood := Lib.hid hgood
  clear hnone hsome hgood hN hl0
  go_enter Try.func76, Try.ntmps76
  go_wp2
  go_loop [5, 6] (fun v i => ∃ i' acc : Nat, i = .int .i64 i' ∧ i' ≤ n ∧ i' ≤ 10 ∧ v = .int .u64 acc ∧ acc < 128 ^ i' ∧ Hid (dec l = decC acc i' (dec (l.drop i')))) (fun _ i => n - (intOf i).toNat)
  case atStart => exact ⟨0, 0, rfl, by omega, by omega, rfl, by decide, Lib.hid (decC_start l).symm⟩
  case round =>
    obtain ⟨i, acc, rfl, hi, hi10, rfl, hacc, Hd⟩ := hrel
    have fr0 : w.frozen? ⟨g, 0, none⟩ = false := hb.frozen 0
    by_cases hin : i < n ∧ i < 10
    · obtain ⟨hin, hi9⟩ := hin
      have hil : i < l.length := by rw [← Hn.out]; exact hin
      rw [Hgood.out (by omega)] at hb
      obtain ⟨b, off, rfl, u, hu, hcell⟩ := hl.at_ hin
      rw [u8s_get _ _ hil, Option.some.injEq] at hu
      subst hu
      unfold u8v at hcell
      have hx : l[i].toNat < 256 := l[i].toNat_lt
      have hgoes : i = 9 → 1 < l[i].toNat → takeN most l = none := fun e h1 => by subst e; exact takeN_goes hm Hd.out hil h1
      have hzero := fun h0 hi0 => (Hd.out.trans (decC_zero acc i hil h0 hi0))
      have hstep := fun hc => (Hd.out.trans (decC_step acc i hil hc))
      have hend := fun hc h0 => (Hd.out.trans (decC_end acc i hil hc h0))
      have hp := and_part hx
      have hpl := Nat.mod_lt l[i].toNat (show 0 < 128 by omega)
      have hpx : 128 ≤ l[i].toNat → l[i].toNat % 128 = l[i].toNat - 128 := fun _ => by omega
      have hpy : l[i].toNat < 128 → l[i].toNat % 128 = l[i].toNat := fun _ => by omega
      generalize l[i].toNat = x at *
      generalize hpp : x % 128 = p at *
      by_cases h9 : i = 9 ∧ 1 < x
      · have hout := Lib.hid (Hnone.out (hgoes h9.1 h9.2))
        have f1 : ((i : Int) == 9) = true := by rw [h9.1]; rfl
        have f2 : (1 : Int) < (x : Int) := by omega
        clear hzero hstep hend hpx hpy hpp hgoes h9
        go_wp2_with (go_at_call 107; refine (rr_fail h).mono ?_; rintro e w ⟨⟨v, rfl⟩, h⟩)
        all_goals
          (try rw [Exit.noGoto_ret])
          go_ret
          rw [hout.out]
          exact ⟨rfl, h⟩
      · have hov : p * 128 ^ i < 2 ^ 64 := by
          by_cases h8 : i ≤ 8
          · have h1 : 128 ^ i ≤ 128 ^ 8 := Nat.pow_le_pow_right (by omega) h8
            have h2 := Nat.mul_le_mul_left p h1
            have h3 : p * 128 ^ 8 ≤ 127 * 128 ^ 8 := Nat.mul_le_mul_right _ (by omega)
            have h4 : 127 * 128 ^ 8 < 2 ^ 64 := by decide
            exact Nat.lt_of_le_of_lt (Nat.le_trans h2 h3) h4
          · have : i = 9 := by omega
            subst this
            have h3 : p * 128 ^ 9 ≤ 1 * 128 ^ 9 := Nat.mul_le_mul_right _ (by omega)
            have h4 : 1 * 128 ^ 9 < 2 ^ 64 := by decide
            exact Nat.lt_of_le_of_lt h3 h4
        have hsl := sh_left p i
        rw [Nat.mod_eq_of_lt hov] at hsl
        have h9' : 128 ^ i ≤ 128 ^ 9 := Nat.pow_le_pow_right (by omega) (by omega)
        have hor := sh_or hacc hov (by omega)
        have hnext : acc + 128 ^ i * p < 128 ^ (i + 1) := by
          rw [Nat.pow_succ]
          have := Nat.mul_le_mul_left (128 ^ i) (show p ≤ 127 by omega)
          omega
        have key : (((i : Int) == 9) = true ∧ ¬ (1 : Int) < (x : Int)) ∨ ((i : Int) == 9) = false := by
          by_cases e : i = 9
          · exact .inl ⟨by rw [e]; rfl, by omega⟩
          · exact .inr (by simp; omega)
        have key2 : ¬ (x = 0 ∧ 0 < i) → (((x : Int) == 0) = true ∧ decide ((0 : Int) < (i : Int)) = false ∧ decide (0 < i) = false) ∨ ((x : Int) == 0) = false := fun hz => by
          by_cases e : x = 0
          · exact .inl ⟨by rw [e]; rfl, by simp; omega, by simp; omega⟩
          · exact .inr (by simp; omega)
        clear h9' hgoes
        by_cases hc : 128 ≤ x
        · have Hs := Lib.hid (hstep hc)
          have hpc := Lib.hid (hpx hc)
          have f3 : ¬ ((x : Int) < 128) := by omega
          have f4 : (128 : Int) ≤ (x : Int) := by omega
          have f5 : ¬ (i = 9) := by omega
          have f6 : ((i : Int) == 9) = false := by simp; omega
          clear hzero hstep hend hpx hpy h9 key key2
          generalize p * 128 ^ i = q at *
          go_wp2
          all_goals
            go_round
            case rel => exact ⟨i + 1, _, by go_num, by omega, by omega, rfl, hnext, by rw [← hpc.out] at Hs; exact Hs⟩
            case measure => simp [intOf]; omega
        · have f3 : (x : Int) < 128 := by omega
          have f4 : ¬ (128 : Int) ≤ (x : Int) := by omega
          rcases key with ⟨f7, f8⟩ | f7
          all_goals
           by_cases hz : x = 0 ∧ 0 < i
           · have hout := Lib.hid (Hnone.out (takeN_none (hzero hz.1 hz.2)))
             have f5 : ((x : Int) == 0) = true := by rw [hz.1]; rfl
             have f6 : (0 : Int) < (i : Int) := by omega
             clear hzero hstep hend hpx hpy h9 hz hpp key2
             generalize p * 128 ^ i = q at *
             go_wp2_with (go_at_call 107; refine (rr_fail h).mono ?_; rintro e w ⟨⟨v, rfl⟩, h⟩)
             all_goals
               (try rw [Exit.noGoto_ret])
               go_ret
               rw [hout.out]
               exact ⟨rfl, h⟩
           · have Hs := hend (by omega) (by omega)
             have hpc := hpy (by omega)
             rw [← hpc] at Hs
             have key3 := key2 hz
             have hV1 : takeN most l = fitN most (some (acc + 128 ^ i * p, l.drop (i + 1))) := by rw [takeN, Hs]
             have HV1 := Lib.hid hV1
             clear hzero hstep hend hpx hpy h9 hpc Hs hV1 hnext hpp key2 hz
             generalize p * 128 ^ i = q at *
             generalize acc + 128 ^ i * p = V at *
             have hcn : n ≤ c := hl.le
             rcases key3 with ⟨g7, g8, g9⟩ | g7
             all_goals
              by_cases hmost : V ≤ most
              · have hout := Lib.hid (Hsome.out V (l.drop (i + 1)) (by rw [HV1.out, fitN, if_pos hmost]))
                by_cases hci : c = i + 1
                · subst hci
                  have hkR : ∀ k, Ft (some ⟨b, off, none⟩) (n - (i + 1)) k → R k := fun k hk => hR k ⟨by omega, hk.2.elim fun a ha => ⟨⟨b, off, none⟩, rfl, by rw [← ha.2]; cases ha.1; rfl⟩⟩
                  have hk : Sl w (some ⟨b, off, none⟩) (n - (i + 1)) (i + 1 - (i + 1)) 1 (u8s (l.drop (i + 1))) := by
                    have := hl.drop1 (i := i + 1) (by omega)
                    rwa [if_pos rfl] at this
                  have e0 : i + 1 - (i + 1) = 0 := Nat.sub_self _
                  have e1 : n - (i + 1) = 0 := by omega
                  rw [e0, e1] at hk
                  rw [e1] at hkR
                  have hk2 := Lib.hid e1
                  clear e0 e1
                  go_wp2_with (first
                    | (refine wl_put _ rfl 25 _ _ rfl g 0 rfl _ rfl rfl rfl slice_size 139 _ hb (by simp) ?_; clear hb; intro w2 hb hS2; simp only [List.setIfInBounds_toArray, List.set_cons_zero] at hb))
                  all_goals
                    (try rw [Exit.noGoto_ret])
                    go_ret
                    rw [hout.out]
                    exact ⟨rfl, h.setRd g (k := k) (s' := some (l.drop (i + 1))) hS2 hkR hb (hk.step hS2 fun k hk e => hg (e ▸ hkR k hk))⟩
                · have hci2 : ¬ (c : Int) = (i : Int) + 1 := by omega
                  have hkR : ∀ k, Ft (some ⟨b, off + (i + 1), none⟩) (n - (i + 1)) k → R k := fun k hk => hR k ⟨by omega, hk.2.elim fun a ha => ⟨⟨b, off, none⟩, rfl, by rw [← ha.2]; cases ha.1; rfl⟩⟩
                  have hk : Sl w (some ⟨b, off + (i + 1), none⟩) (n - (i + 1)) (c - (i + 1)) 1 (u8s (l.drop (i + 1))) := by
                    have := hl.drop1 (i := i + 1) (by omega)
                    rwa [if_neg hci, Option.map_some, add_none] at this
                  go_wp2_with (first
                    | (refine wl_put _ rfl 25 _ _ rfl g 0 rfl _ rfl rfl rfl slice_size 139 _ hb (by simp) ?_; clear hb; intro w2 hb hS2; simp only [List.setIfInBounds_toArray, List.set_cons_zero] at hb))
                  all_goals
                    (try rw [Exit.noGoto_ret])
                    go_ret
                    rw [hout.out]
                    exact ⟨rfl, h.setRd g (k := k) (s' := some (l.drop (i + 1))) hS2 hkR hb (hk.step hS2 fun k hk e => hg (e ▸ hkR k hk))⟩
              · have hout := Lib.hid (Hnone.out (by rw [HV1.out, fitN, if_neg hmost]))
                go_wp2_with (go_at_call 107; refine (rr_fail h).mono ?_; rintro e w ⟨⟨v, rfl⟩, h⟩)
                all_goals
                  (try rw [Exit.noGoto_ret])
                  go_ret
                  rw [hout.out]
                  exact ⟨rfl, h⟩
    · have hout : N = (0, none) := Hnone.out (by
        by_cases h2 : i < n
        · exact takeN_far hm Hd.out (by omega)
        · exact takeN_none (Hd.out.trans (decC_nil acc i (by rw [← Hn.out]; omega))))
      have hout := Lib.hid hout
      by_cases h2 : i < n
      · have h3 : ¬ (i : Int) < 10 := by omega
        go_wp2_with (go_at_call 107; refine (rr_fail h).mono ?_; rintro e w ⟨⟨v, rfl⟩, h⟩)
        all_goals
          (try rw [Exit.noGoto_ret])
          go_ret
          rw [hout.out]
          exact ⟨rfl, h⟩
      · go_wp2_with (go_at_call 107; refine (rr_fail h).mono ?_; rintro e w ⟨⟨v, rfl⟩, h⟩)
        all_goals
          (try rw [Exit.noGoto_ret])
          go_ret
          rw [hout.out]
          exact ⟨rfl, h⟩
end
end Go.Proofs.Ytnokgejmlpmgfaa
