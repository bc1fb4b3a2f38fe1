/- The reader, walked: all but its numbers. -/
import Derived.Test.YtnokgejmlpmgfaaCRdN
namespace Go.Proofs.Ytnokgejmlpmgfaa
open Go.RowKit
set_option linter.unusedVariables false
set_option linter.unusedSimpArgs false

section
variable {S : Nat → Prop} {w0 w : World} {L F : List Ent} {g : Nat} {R : Nat → Prop} {s : RS}

set_option maxRecDepth 100000 in
set_option maxHeartbeats 1000000 in
theorem rd_raw (h : St S w0 w L) [k : SlotR L g 163 true R s F] {m : Nat} (hm : m ≤ 100000000) : Calls Try.prog 82 #[.pointer (some ⟨g, 0, none⟩), .int .i64 (m : Int)] w fun e w' => ∃ A c, e = .returned (.slice A (rawT m s).1.length c) ∧ St S w0 w' (eRd 163 true g R (rawT m s).2 :: eOwn 5 1 A (rawT m s).1.length c (u8s (rawT m s).1) :: F) := by
  have hok := rd_ok (g := g) h
  by_cases hgood : ∃ l, s = some l ∧ m ≤ l.length
  · obtain ⟨l, rfl, hml⟩ := hgood
    have hlen : (l.take m).length = m := by rw [List.length_take]; omega
    rw [rawT, if_pos hml]
    simp only
    rw [hlen]
    obtain ⟨A, n, c, h⟩ := h.rdOpen g
    simp only [Option.getD_some, Option.isSome_some, beq_true] at h
    have hl := h.roSl g
    have hn := hl.n_eq
    have hmn : m ≤ n := by omega
    have hnc := hl.le
    have hR : ∀ k, Ft A n k → R k := (h.ro g).2.2.1
    have hcap := hl.cap
    have c0 : w.cell? ⟨g, 0, none⟩ = some (.slice A n c) := (h.roBlk g).cell 0
    have htk := hl.take1 hmn
    have hR' : ∀ k, Ft (if c = m then A else A.map (·.add m)) (n - m) k → R k := fun k hk => hR k (ft_cut hk)
    clear hn hlen
    by_cases hcm : c = m
    · subst hcm
      rw [if_pos rfl] at hR'
      go_enter Try.func82, Try.ntmps82
      go_wp2_with (first
        | (go_at_call 103; refine hok.mono ?_; rintro e w ⟨rfl, rfl⟩; clear hok)
        | (refine wl_runs rfl (ex_append_nil h _ _ _ rfl rfl A c c rfl htk (u8s_one _) (by simp [maxLen] at hcap ⊢; omega) (by omega)) ?_; clear h c0; rintro _ w ⟨A2, c2, rfl, h⟩; have c0 : w.cell? ⟨g, 0, none⟩ = some (.slice A n c) := (h.roBlk g).cell 0)
        | (refine wl_put _ rfl 25 _ _ rfl g 0 rfl _ rfl rfl rfl slice_size 163 _ (h.roBlk g) (by simp) ?_; intro w2 hb hS2; simp only [List.setIfInBounds_toArray, List.set_cons_zero] at hb))
      go_ret
      have hsl := (h.roSl g).drop1 hmn
      have hnc2 : n - c = 0 := by omega
      rw [if_pos rfl, hnc2, Nat.sub_self] at hsl
      rw [hnc2] at hR'
      exact ⟨A2, c2, rfl, ((h.setRo g hS2 hR' hb hsl).rdShut g true (some (l.drop c)) rfl rfl).to⟩
    · rw [if_neg hcm] at hR'
      go_enter Try.func82, Try.ntmps82
      go_wp2_with (first
        | (go_at_call 103; refine hok.mono ?_; rintro e w ⟨rfl, rfl⟩; clear hok)
        | (refine wl_runs rfl (ex_append_nil h _ _ _ rfl rfl A m c rfl htk (u8s_one _) (by simp [maxLen] at hcap ⊢; omega) (by omega)) ?_; clear h c0; rintro _ w ⟨A2, c2, rfl, h⟩; have c0 : w.cell? ⟨g, 0, none⟩ = some (.slice A n c) := (h.roBlk g).cell 0)
        | (refine wl_put _ rfl 25 _ _ rfl g 0 rfl _ rfl rfl rfl slice_size 163 _ (h.roBlk g) (by simp) ?_; intro w2 hb hS2; simp only [List.setIfInBounds_toArray, List.set_cons_zero] at hb))
      go_ret
      have hsl := (h.roSl g).drop1 hmn
      rw [if_neg hcm] at hsl
      exact ⟨A2, c2, rfl, ((h.setRo g hS2 hR' hb hsl).rdShut g true (some (l.drop m)) rfl rfl).to⟩
  · have hout : rawT m s = ([], none) := by
      cases s with
      | none => rfl
      | some l => rw [rawT, if_neg (fun hl => hgood ⟨l, rfl, hl⟩)]
    rw [hout]
    simp only [List.length_nil]
    obtain ⟨A, n, c, h2⟩ := h.rdOpen g
    have c0 : w.cell? ⟨g, 0, none⟩ = some (.slice A n c) := (h2.roBlk g).cell 0
    cases s with
    | none =>
      clear h2 hgood hout
      go_enter Try.func82, Try.ntmps82
      go_wp2_with (first
        | (go_at_call 103; refine hok.mono ?_; rintro e w ⟨rfl, rfl⟩; clear hok)
        | (go_at_call 104; refine (rd_fail h).mono ?_; clear h; rintro e w ⟨⟨v, rfl⟩, h⟩))
      go_ret
      exact ⟨none, 0, rfl, St.to (L := eOwn 5 1 none 0 0 (u8s []) :: _) (h.nilRow 5 1)⟩
    | some l =>
      have hn := (h2.roSl g).n_eq
      have hnm : n < m := by
        rw [hn]
        exact Nat.lt_of_not_le fun hl => hgood ⟨l, rfl, hl⟩
      clear h2 hgood hout hn
      go_enter Try.func82, Try.ntmps82
      go_wp2_with (first
        | (go_at_call 103; refine hok.mono ?_; rintro e w ⟨rfl, rfl⟩; clear hok)
        | (go_at_call 104; refine (rd_fail h).mono ?_; clear h; rintro e w ⟨⟨v, rfl⟩, h⟩))
      go_ret
      exact ⟨none, 0, rfl, St.to (L := eOwn 5 1 none 0 0 (u8s []) :: _) (h.nilRow 5 1)⟩

set_option maxRecDepth 100000 in
theorem rd_text (h : St S w0 w L) [k : SlotR L g 163 true R s F] {most : Nat} (hm : most ≤ 100000000) : Calls Try.prog 73 #[.pointer (some ⟨g, 0, none⟩), .int .i64 (most : Int)] w fun e w' => ∃ A c, e = .returned (.slice A (textT most s).1.length c) ∧ St S w0 w' (eRd 163 true g R (textT most s).2 :: eOwn 5 1 A (textT most s).1.length c (u8s (textT most s).1) :: F) := by
  have hle := numT_le most s
  unfold textT
  obtain ⟨N, hN⟩ : ∃ N, numT most s = N := ⟨_, rfl⟩
  have HN := Lib.hid hN
  rw [hN] at hle ⊢
  clear hN
  go_enter Try.func73, Try.ntmps73
  go_wp2_with (first
    | (go_at_call 71; refine (rd_n (most := most) h (by omega)).mono ?_; rw [HN.out]; clear h; rintro e w ⟨rfl, h⟩)
    | (go_at_call 82; refine (rd_raw (m := N.1) h (by omega)).mono ?_; clear h; rintro e w ⟨A, c, rfl, h⟩))
  go_ret
  exact ⟨A, c, rfl, h⟩

theorem rd_rest (h : St S w0 w L) [k : SlotR L g 163 true R s F] : Calls Try.prog 81 #[.pointer (some ⟨g, 0, none⟩)] w fun e w' => e = .returned (.int .i64 ((s.getD []).length : Int)) ∧ w = w' := by
  have hok := rd_ok (g := g) h
  obtain ⟨A, n, c, h2⟩ := h.rdOpen g
  have c0 : w.cell? ⟨g, 0, none⟩ = some (.slice A n c) := (h2.roBlk g).cell 0
  have hn := Lib.hid (h2.roSl g).n_eq
  clear h2
  cases s with
  | none =>
    go_enter Try.func81, Try.ntmps81
    go_wp2_with (go_at_call 103; refine hok.mono ?_; rintro e w ⟨rfl, rfl⟩; clear hok)
    go_ret
    exact ⟨rfl, rfl⟩
  | some l =>
    go_enter Try.func81, Try.ntmps81
    go_wp2_with (go_at_call 103; refine hok.mono ?_; rintro e w ⟨rfl, rfl⟩; clear hok)
    go_ret
    exact ⟨by rw [hn.out]; rfl, rfl⟩

/-- What is told at the end. -/
def endN (s : RS) : Int := if s = some [] then 0 else 80
theorem rd_end (h : St S w0 w L) [k : SlotR L g 163 true R s F] : Calls Try.prog 74 #[.pointer (some ⟨g, 0, none⟩)] w fun e w' => e = .returned (.int .i64 (endN s)) ∧ w = w' := by
  have hok := rd_ok (g := g) h
  obtain ⟨A, n, c, h2⟩ := h.rdOpen g
  have c0 : w.cell? ⟨g, 0, none⟩ = some (.slice A n c) := (h2.roBlk g).cell 0
  have hn := (h2.roSl g).n_eq
  clear h2
  cases s with
  | none =>
    clear hn
    go_enter Try.func74, Try.ntmps74
    go_wp2_with (go_at_call 103; refine hok.mono ?_; rintro e w ⟨rfl, rfl⟩; clear hok)
    go_ret
    exact ⟨rfl, rfl⟩
  | some l =>
    simp only [Option.getD_some] at hn
    by_cases hl : l = []
    · subst hl
      simp only [List.length_nil] at hn
      subst hn
      go_enter Try.func74, Try.ntmps74
      go_wp2_with (go_at_call 103; refine hok.mono ?_; rintro e w ⟨rfl, rfl⟩; clear hok)
      go_ret
      exact ⟨rfl, rfl⟩
    · have hl2 := Lib.hid (show ¬ (some l = some []) from fun e => hl (Option.some.inj e))
      have hpos : 0 < n := by rw [hn]; exact List.length_pos_iff.2 hl
      clear hn hl
      go_enter Try.func74, Try.ntmps74
      go_wp2_with (go_at_call 103; refine hok.mono ?_; rintro e w ⟨rfl, rfl⟩; clear hok)
      go_ret
      exact ⟨by rw [endN, if_neg hl2.out]; rfl, rfl⟩
end
end Go.Proofs.Ytnokgejmlpmgfaa
