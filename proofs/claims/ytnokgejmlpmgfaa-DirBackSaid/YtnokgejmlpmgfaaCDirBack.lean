/- The law DirBack: what is put is read as it was; what is read is put as it was. -/
import Derived.Test.YtnokgejmlpmgfaaCDirReads
import Derived.Test.YtnokgejmlpmgfaaCDirPuts
namespace Go.Proofs.Ytnokgejmlpmgfaa
open Go.RowKit
set_option linter.unusedVariables false
set_option linter.unusedSimpArgs false

theorem doutM_len {l : List En} (ho : ∀ e ∈ l, EnOk e) : (doutM l).length ≤ 110000 := by
  unfold doutM
  split
  · rename_i h
    rw [← upB_all]
    exact upB_len (dirM_enB h ho) (dirM_spec h).1 _
  · simp
set_option maxRecDepth 100000 in
set_option maxHeartbeats 2000000 in
theorem walk_DirBack0 {w : World} {l : List En} {A : Option Addr} {c : Nat} (ha : Sl w A l.length c 100 (l.flatMap enK)) (ho : ∀ e ∈ l, EnOk e) {b : List UInt8} {D : Option Addr} {q f : Nat} (hl : Sl w D q f 1 (u8s b)) :
    Calls Try.prog 9 #[.slice A l.length c, .slice D q f] w fun r w' => r = .returned (.bool true) ∧ Below w.heap.size w w' := by
  have h := (St.read0 hl (by omega)).reading ha (by omega) (fun k hk => ⟨ha.ft_lt (by omega) hk, id⟩)
  clear hl ha
  have Hok := Lib.hid ho
  obtain ⟨fw, hfw⟩ : ∃ fw, fewD l = fw := ⟨_, rfl⟩
  have Hf := Lib.hid hfw
  cases fw with
  | false =>
    clear hfw ho
    go_enter Try.func9, Try.ntmps9
    go_wp2_with (first | (go_at_call 13; refine (dir_awake h).mono ?_; clear h; rintro r w ⟨rfl, h⟩) | (go_at_call 14; refine (few_dir h).mono ?_; rw [Hf.out]; clear h; rintro r w ⟨rfl, h⟩))
    go_ret
    exact ⟨rfl, h.step.below⟩
  | true =>
    obtain ⟨hn, hm⟩ := fewD_yes hfw
    clear hfw hm
    by_cases hq : q ≤ 3000
    · have f1 : decide ((3000 : Int) < (q : Int)) = false := by simp; omega
      have hol1 := doutM_len ho
      obtain ⟨out1, ho1⟩ : ∃ out1, doutM l = out1 := ⟨_, rfl⟩
      rw [ho1] at hol1
      have hol : out1.length ≤ 100000000 := by omega
      obtain ⟨cc1, hc1⟩ : ∃ cc1, doutC l = cc1 := ⟨_, rfl⟩
      have P1 := Lib.hid (And.intro ho1 hc1)
      obtain ⟨O1, hO1⟩ : ∃ O1, dirOf out1 = O1 := ⟨_, rfl⟩
      have G1 := Lib.hid (And.intro hO1 trivial)
      obtain ⟨E1, hE1⟩ : ∃ E1, O1.getD [] = E1 := ⟨_, rfl⟩
      have HE1 := Lib.hid hE1
      obtain ⟨C1, hC1⟩ : ∃ C1, codeD O1 = C1 := ⟨_, rfl⟩
      have HC1 := Lib.hid hC1
      have hok2 := fun e he => (dirOf_enB (b := b) e he).1
      obtain ⟨O2, hO2⟩ : ∃ O2, dirOf b = O2 := ⟨_, rfl⟩
      have G2 := Lib.hid hO2
      rw [hO2] at hok2
      obtain ⟨E2, hE2⟩ : ∃ E2, O2.getD [] = E2 := ⟨_, rfl⟩
      have HE2 := Lib.hid hE2
      rw [hE2] at hok2
      obtain ⟨C2, hC2⟩ : ∃ C2, codeD O2 = C2 := ⟨_, rfl⟩
      have HC2 := Lib.hid hC2
      have Hok2 := Lib.hid hok2
      obtain ⟨out2, ho2⟩ : ∃ out2, doutM E2 = out2 := ⟨_, rfl⟩
      obtain ⟨cc2, hc2⟩ : ∃ cc2, doutC E2 = cc2 := ⟨_, rfl⟩
      have P2 := Lib.hid (And.intro ho2 hc2)
      have hz : (C2 = 0 ∧ cc2 = 0 ∧ b = out2) ∨ C2 = 110 := by
        cases O2 with
        | none => exact .inr hC2.symm
        | some m =>
          obtain ⟨h3, h4⟩ := dirOf_put hO2
          have h5 : m = E2 := hE2
          subst h5
          exact .inl ⟨hC2.symm, by rw [← hc2, doutC, if_pos h4], by rw [← ho2, doutM, if_pos h4]; exact h3⟩
      have hy : (cc1 = 0 ∧ C1 = 0 ∧ l = E1) ∨ cc1 = 110 := by
        by_cases hd : dirM l = true
        · have h1 : O1 = some l := by rw [← hO1, ← ho1, doutM, if_pos hd, dirOf_of hd ho]
          exact .inl ⟨by rw [← hc1, doutC, if_pos hd], by rw [← hC1, h1]; rfl, by rw [← hE1, h1]; rfl⟩
        · exact .inr (by rw [← hc1, doutC, if_neg hd])
      have hss := str_eq_selfD b
      clear ho1 hc1 hO1 hE1 hC1 hok2 hO2 hE2 hC2 ho2 hc2 ho
      rcases hy with ⟨rfl, rfl, rfl⟩ | rfl
      all_goals
        rcases hz with ⟨rfl, rfl, rfl⟩ | rfl
      all_goals
        go_enter Try.func9, Try.ntmps9
        go_wp2_with (first
          | (go_at_call 13; refine (dir_awake h).mono ?_; clear h; rintro r w ⟨rfl, h⟩) | (go_at_call 14; refine (few_dir h).mono ?_; rw [Hf.out]; clear h; rintro r w ⟨rfl, h⟩) | (have q := P1.out; clear P1; go_at_call 15; refine (dput_code (l := l) h Hok.out).mono ?_; rw [q.1, q.2]; clear h q; rintro e w ⟨A1, c1, rfl, h⟩) | (have q := G1.out; clear G1; go_at_call 35; refine (dir_of (l := out1) (A := A1) h hol).mono ?_; rw [q.1, HE1.out, HC1.out]; clear h q; rintro e w ⟨A2, c2, rfl, h⟩) | (have q := G2.out; clear G2; go_at_call 35; refine (dir_of (l := b) h (by omega)).mono ?_; rw [q, HE2.out, HC2.out]; clear h q; rintro e w ⟨A3, c3, rfl, h⟩) | (go_at_call 15; refine (dput_code (l := E2) h Hok2.out).mono ?_; rw [P2.out.1, P2.out.2]; clear h; rintro e w ⟨A4, c4, rfl, h⟩)
          | (go_at_call 37; refine (same_entries (A := A2) (B := A) (c := c2) (d := c) (l := l) (m := l) h Hok.out Hok.out (by omega)).mono ?_; rw [decide_eq_true (rfl : l = l)]; clear h; rintro e w ⟨rfl, h⟩)
          | (refine wl_at 62 rfl ?_; refine wl_reads rfl (ex_string _ _ _ rfl Try.underlying5 Try.underlying9 A4 b.length c4 rfl (h.sl A4 b.length c4)) ?_)
          | (refine wl_at 64 rfl ?_; refine wl_reads rfl (ex_string _ _ _ rfl Try.underlying5 Try.underlying9 D q f rfl (h.sl D q f)) ?_))
        go_ret
        exact ⟨rfl, h.step.below⟩
    · have f1 : decide ((3000 : Int) < (q : Int)) = true := by simp; omega
      clear ho hn
      go_enter Try.func9, Try.ntmps9
      go_wp2_with (first | (go_at_call 13; refine (dir_awake h).mono ?_; clear h; rintro r w ⟨rfl, h⟩) | (go_at_call 14; refine (few_dir h).mono ?_; rw [Hf.out]; clear h; rintro r w ⟨rfl, h⟩))
      go_ret
      exact ⟨rfl, h.step.below⟩
theorem walk_DirBack {w : World} {l : List En} {A : Option Addr} {n c : Nat} (ha : Sl w A n c 100 (l.flatMap enK)) (ho : ∀ e ∈ l, EnOk e) {b : List UInt8} {D : Option Addr} {q f : Nat} (hl : Sl w D q f 1 (u8s b)) :
    Calls Try.prog 9 #[.slice A n c, .slice D q f] w fun r w' => r = .returned (.bool true) ∧ Below w.heap.size w w' := by
  have hn : n = l.length := ha.n_flat enK_length (by omega)
  rw [hn] at ha
  rw [hn]
  exact walk_DirBack0 ha ho hl
end Go.Proofs.Ytnokgejmlpmgfaa
