/- The reader, walked. -/
import Derived.Test.YtnokgejmlpmgfaaCB2
import Derived.Test.YtnokgejmlpmgfaaCTy
import Derived.Laws.BitsAllLaws
namespace Go.Proofs.Ytnokgejmlpmgfaa
open Go.RowKit
set_option linter.unusedVariables false
set_option linter.unusedSimpArgs false

section
variable {S : Nat → Prop} {w0 w : World} {L F : List Ent} {g : Nat} {R : Nat → Prop} {s : RS}
theorem slice_size : (Try.prog.info? 25).map (·.size) = some 1 := by kernel_rfl
theorem flag_size : (Try.prog.info? 4).map (·.size) = some 1 := by kernel_rfl

theorem rd_ok (h : St S w0 w L) [k : SlotR L g 163 true R s F] : Calls Try.prog 103 #[.pointer (some ⟨g, 0, none⟩)] w fun e w' => e = .returned (.bool s.isSome) ∧ w = w' := by
  obtain ⟨A, n, c, hb, hl, hR, hg⟩ := h.rdBlk g
  have c1 : w.cell? ⟨g, 1, none⟩ = some (.bool (s.isSome == true)) := hb.cell 1
  rw [beq_true] at c1
  go_enter Try.func103, Try.ntmps103
  go_wp2
  go_ret
  exact ⟨rfl, rfl⟩

theorem rd_fail (h : St S w0 w L) [k : SlotR L g 163 true R s F] : Calls Try.prog 104 #[.pointer (some ⟨g, 0, none⟩)] w fun e w' => (∃ v, e = .returned v) ∧ St S w0 w' (eRd 163 true g R none :: F) := by
  obtain ⟨A, n, c, hb, hl, hR, hg⟩ := h.rdBlk g
  go_enter Try.func104, Try.ntmps104
  go_wp2_with (first
    | (refine wl_put _ rfl 25 _ _ rfl g 0 rfl (.slice none 0 0) rfl rfl rfl slice_size 163 _ hb (by simp) ?_; clear hb; intro w2 hb hS2; simp only [List.setIfInBounds_toArray, List.set_cons_zero] at hb)
    | (refine wl_put _ rfl 4 _ _ rfl g 1 rfl (.bool false) rfl rfl rfl flag_size 163 _ hb (by simp) ?_; clear hb; intro w3 hb hS3))
  go_end0
  exact ⟨⟨_, rfl⟩, h.setRd g (k := k) (hS2.tr hS3) (fun _ hk => (ft_nil hk).elim) hb (Sl.nil _ _)⟩

theorem read_code {A : Option Addr} {n c : Nat} {l : List UInt8} (h : St S w0 w L) [ka : HasSl L A n c 1 (u8s l)] (hn : n ≤ 100000000) : Calls Try.prog 70 #[.slice A n c] w fun e w' => ∃ g R, e = .returned (.pointer (some ⟨g, 0, none⟩)) ∧ St S w0 w' (eRd 163 true g R (some l) :: L) := by
  go_enter Try.func70, Try.ntmps70
  go_wp2_with (first
    | (refine wl_runs rfl (ex_append_nil h _ _ _ rfl rfl A n c rfl (h.sl A n c) (u8s_one _) (by simp [maxLen]; omega) (by omega)) ?_; clear h; rintro _ w ⟨A2, c2, rfl, h⟩; replace h := h.release A2 (by omega))
    | (refine wl_reads rfl (ex_lit _ _ rfl [(0, .slice A2 n c2), (1, .bool true)] rfl) ?_)
    | (refine wl_runs rfl (ex_box h 163 _ rfl _ rfl) ?_; clear h; rintro _ w ⟨g, rfl, h⟩)
    | (refine wl_reads rfl (ex_loadv h _ _ rfl _ _ rfl) ?_) | (refine wl_runs rfl (ex_store1i h _ _ _ rfl _ _ rfl _ _ rfl) ?_; clear h; rintro _ w ⟨rfl, h⟩; try dsimp only [Act.put]) | (refine wl_runs rfl (ex_store1s h _ _ _ rfl _ _ rfl _ _ _ rfl) ?_; clear h; rintro _ w ⟨rfl, h⟩; try dsimp only [Act.put]) | (refine wl_runs rfl (ex_store1b h _ _ _ rfl _ _ rfl _ rfl) ?_; clear h; rintro _ w ⟨rfl, h⟩; try dsimp only [Act.put]) | (refine wl_runs rfl (ex_store1t h _ _ _ rfl _ _ rfl _ rfl) ?_; clear h; rintro _ w ⟨rfl, h⟩; try dsimp only [Act.put]) | (refine wl_runs rfl (ex_store1p h _ _ _ rfl _ _ rfl _ rfl) ?_; clear h; rintro _ w ⟨rfl, h⟩; try dsimp only [Act.put]) | (refine wl_runs rfl (ex_store1m h _ _ _ rfl _ _ rfl _ rfl) ?_; clear h; rintro _ w ⟨rfl, h⟩; try dsimp only [Act.put]) | (refine wl_runs rfl (ex_store h _ _ _ rfl _ _ rfl _ rfl) ?_; clear h; rintro _ w ⟨rfl, h⟩; try dsimp only [Act.put]) | (refine wl_runs rfl (ex_alloc h _ rfl) ?_; clear h; rintro _ w ⟨g, rfl, h⟩) | (refine wl_runs rfl (ex_box h _ _ rfl _ rfl) ?_; clear h; rintro _ w ⟨g, rfl, h⟩) | (refine wl_runs rfl (ex_box1i h _ _ rfl _ _ rfl) ?_; clear h; rintro _ w ⟨g, rfl, h⟩) | (refine wl_runs rfl (ex_box1s h _ _ rfl _ _ _ rfl) ?_; clear h; rintro _ w ⟨g, rfl, h⟩) | (refine wl_runs rfl (ex_box1b h _ _ rfl _ rfl) ?_; clear h; rintro _ w ⟨g, rfl, h⟩) | (refine wl_runs rfl (ex_box1t h _ _ rfl _ rfl) ?_; clear h; rintro _ w ⟨g, rfl, h⟩) | (refine wl_runs rfl (ex_box1p h _ _ rfl _ rfl) ?_; clear h; rintro _ w ⟨g, rfl, h⟩) | (refine wl_runs rfl (ex_box1m h _ _ rfl _ rfl) ?_; clear h; rintro _ w ⟨g, rfl, h⟩) | (refine wl_runs rfl (ex_slice1 h _ _ rfl _ rfl) ?_; clear h; rintro _ w ⟨g, rfl, h⟩) | (refine wl_runs rfl (ex_slice1i h _ _ rfl _ _ rfl) ?_; clear h; rintro _ w ⟨g, rfl, h⟩) | (refine wl_runs rfl (ex_slice1s h _ _ rfl _ _ _ rfl) ?_; clear h; rintro _ w ⟨g, rfl, h⟩) | (refine wl_runs rfl (ex_slice1b h _ _ rfl _ rfl) ?_; clear h; rintro _ w ⟨g, rfl, h⟩) | (refine wl_runs rfl (ex_slice1t h _ _ rfl _ rfl) ?_; clear h; rintro _ w ⟨g, rfl, h⟩) | (refine wl_runs rfl (ex_slice1p h _ _ rfl _ rfl) ?_; clear h; rintro _ w ⟨g, rfl, h⟩) | (refine wl_runs rfl (ex_slice1m h _ _ rfl _ rfl) ?_; clear h; rintro _ w ⟨g, rfl, h⟩) | (refine wl_reads rfl (ex_lit0 _ rfl) ?_))
  go_ret
  have h2 := h.newRd (l := l) g
  exact ⟨g, Ft A2 n, rfl, h2.to⟩

theorem sh_part : ∀ {x : Nat}, x < 256 → IntKind.u64.wrap (bits .andNot .u8 (x : Int) 128) = ((x % 128 : Nat) : Int) := by
  have h : ∀ y : Fin 256, IntKind.u64.wrap (bits .andNot .u8 ((y.1 : Nat) : Int) 128) = ((y.1 % 128 : Nat) : Int) := by decide +kernel
  intro x hx
  exact h ⟨x, hx⟩
theorem two_seven (i : Nat) : (2 : Nat) ^ (7 * i) = 128 ^ i := by rw [Nat.pow_mul]
theorem sh_left (p i : Nat) : IntKind.u64.wrap ((p : Int) * 2 ^ (7 * i)) = ((p * 128 ^ i % 2 ^ 64 : Nat) : Int) := by
  have : (p : Int) * 2 ^ (7 * i) = ((p * 128 ^ i : Nat) : Int) := by rw [← two_seven]; push_cast; rfl
  rw [this]
  simp [IntKind.wrap, IntKind.signed, IntKind.bits]
theorem sh_right (q i : Nat) : (q : Int) / 2 ^ (7 * i) = ((q / 128 ^ i : Nat) : Int) := by rw [← two_seven]; push_cast; rfl
theorem sh_or {acc p i : Nat} (ha : acc < 128 ^ i) (hp : p * 128 ^ i < 2 ^ 64) (ha2 : acc < 2 ^ 64) : bits .or .u64 (acc : Int) ((p * 128 ^ i : Nat) : Int) = ((acc + 128 ^ i * p : Nat) : Int) := by
  rw [u64_or_nat _ _ ha2 hp]
  congr 1
  rw [← two_seven] at ha ⊢
  have := Nat.shiftLeft_add_eq_or_of_lt ha p
  rw [Nat.or_comm, Nat.mul_comm (2 ^ (7 * i)) p, Nat.add_comm, ← Nat.shiftLeft_eq]
  exact this.symm

set_option maxRecDepth 100000 in
set_option maxHeartbeats 1000000 in
theorem rd_n (h : St S w0 w L) [k : SlotR L g 163 true R s F] {most : Nat} (hm : most < 2 ^ 64) : Calls Try.prog 71 #[.pointer (some ⟨g, 0, none⟩), .int .u64 (most : Int)] w fun e w' => e = .returned (.int .u64 ((numT most s).1 : Int)) ∧ St S w0 w' (eRd 163 true g R (numT most s).2 :: F) := by
  have hok := rd_ok (g := g) h
  cases s with
  | none =>
    go_enter Try.func71, Try.ntmps71
    go_wp2_with (first
      | (go_at_call 103; refine hok.mono ?_; rintro e w ⟨rfl, rfl⟩)
      | (go_at_call 104; refine (rd_fail h).mono ?_; rintro e w ⟨⟨v, rfl⟩, h⟩))
    go_ret
    exact ⟨rfl, h⟩
  | some l =>
    obtain ⟨A, n, c, hb, hl, hR, hg⟩ := h.rdBlk g
    simp only [Option.getD_some] at hl
    have hn := hl.n_eq
    have Hn := Lib.hid hn
    have c0 : w.cell? ⟨g, 0, none⟩ = some (.slice A n c) := hb.cell 0
    clear hn
    have hcap := hl.cap
    obtain ⟨N, hN⟩ : ∃ N, numT most (some l) = N := ⟨_, rfl⟩
    rw [hN]
    have HN := Lib.hid hN
    clear hN
    have hnone : takeN most l = none → N = (0, none) := fun e => by rw [← HN.out, numT, Option.bind_some, e]
    have Hnone := Lib.hid hnone
    clear hnone
    go_enter Try.func71, Try.ntmps71
    go_wp2_with (first
      | (go_at_call 103; refine hok.mono ?_; rintro e w ⟨rfl, rfl⟩; clear hok))
    go_step3
    go_wp2
    go_step3
    go_wp2
    go_loop [5, 6, 7, 8, 19] (fun v sh us wh i => ∃ i' acc : Nat, us = .int .i64 0 ∧ wh = .bool false ∧ i = .int .i64 i' ∧ i' ≤ n ∧ i' ≤ 10 ∧ v = .int .u64 acc ∧ sh = .int .i64 (7 * (i' : Int)) ∧ acc < 128 ^ i' ∧ Hid (dec l = decC acc i' (dec (l.drop i')))) (fun _ _ _ _ i => n - (intOf i).toNat)
    case atStart => exact ⟨0, 0, rfl, rfl, rfl, by omega, by omega, rfl, rfl, by decide, Lib.hid (decC_start l).symm⟩
    case round =>
      obtain ⟨i, acc, rfl, rfl, rfl, hi, hi10, rfl, rfl, hacc, Hd⟩ := hrel
      have fr0 : w.frozen? ⟨g, 0, none⟩ = false := hb.frozen 0
      by_cases hin : i < n
      · have hil : i < l.length := by rw [← Hn.out]; exact hin
        obtain ⟨b, off, rfl, u, hu, hcell⟩ := hl.at_ hin
        rw [u8s_get _ _ hil, Option.some.injEq] at hu
        subst hu
        unfold u8v at hcell
        have hx : l[i].toNat < 256 := l[i].toNat_lt
        by_cases hi9 : i ≤ 9
        · have f1 : ¬ ((63 : Int) < 7 * (i : Int)) := by omega
          have hp := sh_part hx
          have hover := fun h2 => takeN_over hm Hd.out hil h2
          have hzero := fun h0 hi0 => (Hd.out.trans (decC_zero acc i hil h0 hi0))
          have hstep := fun hc => (Hd.out.trans (decC_step acc i hil hc))
          have hend := fun hc h0 => (Hd.out.trans (decC_end acc i hil hc h0))
          have hpl := Nat.mod_lt l[i].toNat (show 0 < 128 by omega)
          have hpx : 128 ≤ l[i].toNat → l[i].toNat % 128 = l[i].toNat - 128 := fun _ => by omega
          have hpy : l[i].toNat < 128 → l[i].toNat % 128 = l[i].toNat := fun _ => by omega
          generalize l[i].toNat = x at *
          generalize hpp : x % 128 = p at *
          rw [Nat.mul_comm] at hover
          have hsl := sh_left p i
          have hsr := sh_right (p * 128 ^ i % 2 ^ 64) i
          by_cases hov : 2 ^ 64 ≤ p * 128 ^ i
          · have hnone := hover hov
            have hne : ¬ (p * 128 ^ i % 2 ^ 64 / 128 ^ i = p) := fun e => by
              have h1 := Nat.div_mul_le_self (p * 128 ^ i % 2 ^ 64) (128 ^ i)
              rw [e] at h1
              have h2 := Nat.mod_lt (p * 128 ^ i) (show 0 < 2 ^ 64 by decide)
              omega
            generalize p * 128 ^ i % 2 ^ 64 = q at *
            generalize q / 128 ^ i = q2 at *
            have hne2 : ¬ ((q2 : Int) = (p : Int)) := by omega
            clear hover hzero hstep hend hpx hpy hov hpp
            have hout := Lib.hid (Hnone.out hnone)
            clear hnone
            go_wp2_with (go_at_call 104; refine (rd_fail h).mono ?_; rintro e w ⟨⟨v, rfl⟩, h⟩)
            all_goals
              (try rw [Exit.noGoto_ret])
              go_ret
              rw [hout.out]
              exact ⟨rfl, h⟩
          · have hov : p * 128 ^ i < 2 ^ 64 := by omega
            rw [Nat.mod_eq_of_lt hov] at hsl hsr
            have hp2 : p * 128 ^ i / 128 ^ i = p := Nat.mul_div_cancel _ (Nat.pow_pos (by omega))
            rw [hp2] at hsr
            have h9 : 128 ^ i ≤ 128 ^ 9 := Nat.pow_le_pow_right (by omega) hi9
            have hor := sh_or hacc hov (by omega)
            have hnext : acc + 128 ^ i * p < 128 ^ (i + 1) := by
              rw [Nat.pow_succ]
              have := Nat.mul_le_mul_left (128 ^ i) (show p ≤ 127 by omega)
              omega
            have hlt64 : acc + 128 ^ i * p < 2 ^ 64 := by
              have hM : 2 ^ 64 = 128 ^ i * 2 ^ (64 - 7 * i) := by
                rw [← two_seven, ← Nat.pow_add]
                congr 1
                omega
              rw [hM] at hov ⊢
              rw [Nat.mul_comm] at hov
              have hpM := Nat.lt_of_mul_lt_mul_left hov
              have := Nat.mul_le_mul_left (128 ^ i) (show p + 1 ≤ 2 ^ (64 - 7 * i) from hpM)
              rw [Nat.mul_add] at this
              omega
            clear hover hp2 h9
            by_cases hz : x = 0 ∧ 0 < i
            · obtain ⟨hx0, hi0⟩ := hz
              have hnone := takeN_none (most := most) (hzero hx0 hi0)
              have f3 : ((x : Int) == 0) = true := by simp [hx0]
              have hout := Lib.hid (Hnone.out hnone)
              clear hnone hzero hstep hend hpx hpy hx0
              have f2 : (0 : Int) < (i : Int) := by omega
              generalize p * 128 ^ i = q at *
              go_wp2_with (go_at_call 104; refine (rd_fail h).mono ?_; rintro e w ⟨⟨v, rfl⟩, h⟩)
              all_goals
                (try rw [Exit.noGoto_ret])
                go_ret
                rw [hout.out]
                exact ⟨rfl, h⟩
            · by_cases hc : 128 ≤ x
              · have Hs := Lib.hid (hstep hc)
                have hpc := Lib.hid (hpx hc)
                have f2 : ¬ ((x : Int) = 0) := by omega
                have f3 : ¬ ((x : Int) < 128) := by omega
                clear hzero hstep hend hpx hpy hz
                generalize p * 128 ^ i = q at *
                go_wp2
                go_round
                case rel => exact ⟨i + 1, _, rfl, rfl, by go_num, by omega, by omega, rfl, by go_num, hnext, by rw [← hpc.out] at Hs; exact Hs⟩
                case measure => simp [intOf]; omega
              · have Hs := Lib.hid (hend (by omega) (by omega))
                have hpc := Lib.hid (hpy (by omega))
                have f3 : (x : Int) < 128 := by omega
                clear hzero hstep hend hpx hpy
                generalize p * 128 ^ i = q at *
                have hcn : n ≤ c := hl.le
                rw [← hpc.out] at Hs
                clear hnext
                generalize hV : acc + 128 ^ i * p = V at *
                have HV := Lib.hid hV
                clear hV
                by_cases hmost : V ≤ most
                · have hout := Lib.hid (show N = (V, some (l.drop (i + 1))) by rw [← HN.out, numT, Option.bind_some, takeN, Hs.out]; simp only [fitN]; rw [if_pos hmost])
                  by_cases hci : c = i + 1
                  · have hci2 : (c : Int) = (i : Int) + 1 := by omega
                    have hk : Sl w (some ⟨b, off, none⟩) (n - (i + 1)) (c - (i + 1)) 1 (u8s (l.drop (i + 1))) := by
                      have := hl.drop (i := i + 1) (by omega)
                      rw [Nat.mul_one, u8s_drop] at this
                      rwa [if_pos hci] at this
                    have hkR : ∀ k, Ft (some ⟨b, off, none⟩) (n - (i + 1)) k → R k := fun k hk => hR k ⟨by omega, hk.2.elim fun a ha => ⟨⟨b, off, none⟩, rfl, by rw [← ha.2]; cases ha.1; rfl⟩⟩
                    subst hci
                    have e0 : i + 1 - (i + 1) = 0 := Nat.sub_self _
                    have e1 : n - (i + 1) = 0 := by omega
                    rw [e0, e1] at hk
                    rw [e1] at hkR
                    have hk2 := Lib.hid e1
                    clear hci2 e0 e1
                    go_wp2_with (first
                      | (refine wl_put _ rfl 25 _ _ rfl g 0 rfl _ rfl rfl rfl slice_size 163 _ hb (by simp) ?_; clear hb; intro w2 hb hS2; simp only [List.setIfInBounds_toArray, List.set_cons_zero] at hb))
                    all_goals
                      (try rw [Exit.noGoto_ret])
                      go_ret
                      rw [hout.out]
                      exact ⟨rfl, h.setRd g (k := k) (s' := some (l.drop (i + 1))) hS2 hkR hb (hk.step hS2 fun k hk e => hg (e ▸ hkR k hk))⟩
                  · have hci2 : ¬ (c : Int) = (i : Int) + 1 := by omega
                    have hk : Sl w (some ⟨b, off + (i + 1), none⟩) (n - (i + 1)) (c - (i + 1)) 1 (u8s (l.drop (i + 1))) := by
                      have := hl.drop (i := i + 1) (by omega)
                      rw [Nat.mul_one, u8s_drop] at this
                      rwa [if_neg hci, Option.map_some, add_none] at this
                    have hkR : ∀ k, Ft (some ⟨b, off + (i + 1), none⟩) (n - (i + 1)) k → R k := fun k hk => hR k ⟨by omega, hk.2.elim fun a ha => ⟨⟨b, off, none⟩, rfl, by rw [← ha.2]; cases ha.1; rfl⟩⟩
                    go_wp2_with (first
                      | (refine wl_put _ rfl 25 _ _ rfl g 0 rfl _ rfl rfl rfl slice_size 163 _ hb (by simp) ?_; clear hb; intro w2 hb hS2; simp only [List.setIfInBounds_toArray, List.set_cons_zero] at hb))
                    all_goals
                      (try rw [Exit.noGoto_ret])
                      go_ret
                      rw [hout.out]
                      exact ⟨rfl, h.setRd g (k := k) (s' := some (l.drop (i + 1))) hS2 hkR hb (hk.step hS2 fun k hk e => hg (e ▸ hkR k hk))⟩
                · have hout := Lib.hid (show N = (0, none) by rw [← HN.out, numT, Option.bind_some, takeN, Hs.out]; simp only [fitN]; rw [if_neg hmost])
                  go_wp2_with (go_at_call 104; refine (rd_fail h).mono ?_; rintro e w ⟨⟨v, rfl⟩, h⟩)
                  all_goals
                    (try rw [Exit.noGoto_ret])
                    go_ret
                    rw [hout.out]
                    exact ⟨rfl, h⟩
        · have f1 : (63 : Int) < 7 * (i : Int) := by omega
          have hnone := takeN_far hm Hd.out (by omega)
          have hout := Lib.hid (Hnone.out hnone)
          clear hnone hi hi9
          go_wp2_with (go_at_call 104; refine (rd_fail h).mono ?_; rintro e w ⟨⟨v, rfl⟩, h⟩)
          all_goals
            (try rw [Exit.noGoto_ret])
            go_ret
            rw [hout.out]
            exact ⟨rfl, h⟩
      · have hnone := takeN_none (most := most) (Hd.out.trans (decC_nil acc i (by rw [← Hn.out]; omega)))
        have hout := Lib.hid (Hnone.out hnone)
        clear hnone
        go_wp2_with (go_at_call 104; refine (rd_fail h).mono ?_; rintro e w ⟨⟨v, rfl⟩, h⟩)
        (try rw [Exit.noGoto_ret])
        go_ret
        rw [hout.out]
        exact ⟨rfl, h⟩
end
end Go.Proofs.Ytnokgejmlpmgfaa
