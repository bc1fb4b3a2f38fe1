/- The reference's reader, walked: all but its numbers. -/
import Derived.Test.YtnokgejmlpmgfaaCRrN
import Derived.Test.YtnokgejmlpmgfaaCRdCode
namespace Go.Proofs.Ytnokgejmlpmgfaa
open Go.RowKit
set_option linter.unusedVariables false
set_option linter.unusedSimpArgs false

section
variable {S : Nat → Prop} {w0 w : World} {L F : List Ent} {g : Nat} {R : Nat → Prop} {s : RS}
set_option maxRecDepth 100000 in
set_option maxHeartbeats 1000000 in
theorem rr_raw (h : St S w0 w L) [k : SlotR L g 139 false R s F] {m : Nat} (hm : m ≤ 100000000) : Calls Try.prog 108 #[.pointer (some ⟨g, 0, none⟩), .int .i64 (m : Int)] w fun e w' => ∃ A c, e = .returned (.slice A (rawT m s).1.length c) ∧ St S w0 w' (eSl A (rawT m s).1.length c 1 (u8s (rawT m s).1) :: eRd 139 false g R (rawT m s).2 :: F) := by
  by_cases hgood : ∃ l, s = some l ∧ m ≤ l.length
  · obtain ⟨l, rfl, hml⟩ := hgood
    have hlen : (l.take m).length = m := by rw [List.length_take]; omega
    rw [rawT, if_pos hml]
    simp only
    rw [hlen]
    obtain ⟨A, n, c, h⟩ := h.rdOpen g
    simp only [Option.getD_some, Option.isSome_some] at h
    have hl := h.roSl g
    have hn := hl.n_eq
    have hmn : m ≤ n := by omega
    have hnc := hl.le
    have hR : ∀ k, Ft A n k → R k := (h.ro g).2.2.1
    have c0 : w.cell? ⟨g, 0, none⟩ = some (.slice A n c) := (h.roBlk g).cell 0
    have c1 : w.cell? ⟨g, 1, none⟩ = some (.bool false) := (h.roBlk g).cell 1
    have htk := hl.take1 hmn
    have hR1 : ∀ k, Ft A m k → R k := fun k hk => hR k ⟨by have := hk.1; omega, hk.2⟩
    have hR' : ∀ k, Ft (if c = m then A else A.map (·.add m)) (n - m) k → R k := fun k hk => hR k (ft_cut hk)
    clear hn hlen
    by_cases hcm : c = m
    · subst hcm
      rw [if_pos rfl] at hR'
      go_enter Try.func108, Try.ntmps108
      go_wp2_with (first
        | (refine wl_put _ rfl 25 _ _ rfl g 0 rfl _ rfl rfl rfl slice_size 139 _ (h.roBlk g) (by simp) ?_; intro w2 hb hS2; simp only [List.setIfInBounds_toArray, List.set_cons_zero] at hb))
      go_ret
      have hsl := (h.roSl g).drop1 hmn
      have hnc2 : n - c = 0 := by omega
      rw [if_pos rfl, hnc2, Nat.sub_self] at hsl
      rw [hnc2] at hR'
      have h2 := h.setRo g hS2 hR' hb hsl
      have h3 := h2.roPiece g hR1 (htk.step hS2 fun k hk e => (h.ro g).1 (e ▸ hR1 k hk))
      exact ⟨A, c, rfl, St.to (L := eRd _ false g R (some (l.drop c)) :: _) (h3.rdShut g false (some (l.drop c)) rfl rfl)⟩
    · rw [if_neg hcm] at hR'
      go_enter Try.func108, Try.ntmps108
      go_wp2_with (first
        | (refine wl_put _ rfl 25 _ _ rfl g 0 rfl _ rfl rfl rfl slice_size 139 _ (h.roBlk g) (by simp) ?_; intro w2 hb hS2; simp only [List.setIfInBounds_toArray, List.set_cons_zero] at hb))
      go_ret
      have hsl := (h.roSl g).drop1 hmn
      rw [if_neg hcm] at hsl
      have h2 := h.setRo g hS2 hR' hb hsl
      have h3 := h2.roPiece g hR1 (htk.step hS2 fun k hk e => (h.ro g).1 (e ▸ hR1 k hk))
      exact ⟨A, c, rfl, St.to (L := eRd _ false g R (some (l.drop m)) :: _) (h3.rdShut g false (some (l.drop m)) rfl rfl)⟩
  · have hout : rawT m s = ([], none) := by
      cases s with
      | none => rfl
      | some l => rw [rawT, if_neg (fun hl => hgood ⟨l, rfl, hl⟩)]
    rw [hout]
    simp only [List.length_nil]
    obtain ⟨A, n, c, h2⟩ := h.rdOpen g
    have c0 : w.cell? ⟨g, 0, none⟩ = some (.slice A n c) := (h2.roBlk g).cell 0
    have c1 : w.cell? ⟨g, 1, none⟩ = some (.bool (s.isSome == false)) := (h2.roBlk g).cell 1
    cases s with
    | none =>
      simp only [Option.isSome_none, beq_self_eq_true] at c1
      clear h2 hgood hout
      go_enter Try.func108, Try.ntmps108
      go_wp2_with (go_at_call 107; refine (rr_fail h).mono ?_; clear h; rintro e w ⟨⟨v, rfl⟩, h⟩)
      go_ret
      exact ⟨none, 0, rfl, h.reading0 (eSl none 0 0 1 (u8s [])) ⟨by omega, Sl.nil _ _⟩ (fun _ hk => hk) (fun _ hk => ft_nil hk)⟩
    | some l =>
      simp only [Option.isSome_some] at c1
      replace c1 : w.cell? ⟨g, 1, none⟩ = some (.bool false) := c1
      have hn := (h2.roSl g).n_eq
      have hnm : n < m := by
        rw [hn]
        exact Nat.lt_of_not_le fun hl => hgood ⟨l, rfl, hl⟩
      clear h2 hgood hout hn
      go_enter Try.func108, Try.ntmps108
      go_wp2_with (go_at_call 107; refine (rr_fail h).mono ?_; clear h; rintro e w ⟨⟨v, rfl⟩, h⟩)
      go_ret
      exact ⟨none, 0, rfl, h.reading0 (eSl none 0 0 1 (u8s [])) ⟨by omega, Sl.nil _ _⟩ (fun _ hk => hk) (fun _ hk => ft_nil hk)⟩

set_option maxRecDepth 100000 in
theorem rr_text (h : St S w0 w L) [k : SlotR L g 139 false R s F] {most : Nat} (hm : most ≤ 100000000) : Calls Try.prog 78 #[.pointer (some ⟨g, 0, none⟩), .int .i64 (most : Int)] w fun e w' => ∃ A c, e = .returned (.slice A (textT most s).1.length c) ∧ St S w0 w' (eSl A (textT most s).1.length c 1 (u8s (textT most s).1) :: eRd 139 false g R (textT most s).2 :: F) := by
  have hle := numT_le most s
  unfold textT
  obtain ⟨N, hN⟩ : ∃ N, numT most s = N := ⟨_, rfl⟩
  have HN := Lib.hid hN
  rw [hN] at hle ⊢
  clear hN
  go_enter Try.func78, Try.ntmps78
  go_wp2_with (first
    | (go_at_call 76; refine (rr_n (most := most) h (by omega)).mono ?_; rw [HN.out]; clear h; rintro e w ⟨rfl, h⟩)
    | (go_at_call 108; refine (rr_raw (m := N.1) h (by omega)).mono ?_; clear h; rintro e w ⟨A, c, rfl, h⟩))
  go_ret
  exact ⟨A, c, rfl, h⟩

theorem rr_end (h : St S w0 w L) [k : SlotR L g 139 false R s F] : Calls Try.prog 80 #[.pointer (some ⟨g, 0, none⟩)] w fun e w' => e = .returned (.int .i64 (endN s)) ∧ w = w' := by
  obtain ⟨A, n, c, h2⟩ := h.rdOpen g
  have c0 : w.cell? ⟨g, 0, none⟩ = some (.slice A n c) := (h2.roBlk g).cell 0
  have c1 : w.cell? ⟨g, 1, none⟩ = some (.bool (s.isSome == false)) := (h2.roBlk g).cell 1
  have hn := (h2.roSl g).n_eq
  clear h2
  cases s with
  | none =>
    simp only [Option.isSome_none, beq_self_eq_true] at c1
    clear hn
    go_enter Try.func80, Try.ntmps80
    go_wp2
    go_ret
    exact ⟨rfl, rfl⟩
  | some l =>
    replace c1 : w.cell? ⟨g, 1, none⟩ = some (.bool false) := c1
    simp only [Option.getD_some] at hn
    by_cases hl : l = []
    · subst hl
      simp only [List.length_nil] at hn
      subst hn
      go_enter Try.func80, Try.ntmps80
      go_wp2
      go_ret
      exact ⟨rfl, rfl⟩
    · have hl2 := Lib.hid (show ¬ (some l = some []) from fun e => hl (Option.some.inj e))
      have hpos : 0 < n := by rw [hn]; exact List.length_pos_iff.2 hl
      clear hn hl
      go_enter Try.func80, Try.ntmps80
      go_wp2
      go_ret
      exact ⟨by rw [endN, if_neg hl2.out]; rfl, rfl⟩

set_option maxRecDepth 100000 in
theorem rr_id (h : St S w0 w L) [k : SlotR L g 139 false R s F] : Calls Try.prog 84 #[.pointer (some ⟨g, 0, none⟩)] w fun e w' => e = .returned (.agg (u8s (idT s).1.1).toArray) ∧ St S w0 w' (eRd 139 false g R (idT s).2 :: F) := by
  cases hi : (idT s).2 with
  | none =>
    have hraw : rawT 32 s = ([], none) ∧ (idT s).1 = idz := by
      cases s with
      | none => exact ⟨rfl, rfl⟩
      | some l =>
        by_cases h2 : 32 ≤ l.length
        · rw [idT_some h2] at hi
          cases hi
        · exact ⟨by rw [rawT, if_neg h2], by rw [idT_short h2]⟩
    rw [hraw.2]
    have Hr := Lib.hid hraw.1
    clear hraw hi
    unfold idz
    go_enter Try.func84, Try.ntmps84
    go_wp2_with (first
      | (refine wl_runs rfl (ex_alloc h 85 rfl) ?_; clear h; rintro _ w ⟨gi, rfl, h⟩)
      | (go_at_call 108; refine (rr_raw (m := 32) h (by omega)).mono ?_; rw [Hr.out]; clear h; rintro e w ⟨A, c, rfl, h⟩)
      | (refine wl_reads rfl (ex_loadv h _ _ rfl _ _ rfl) ?_) | (refine wl_runs rfl (ex_store1i h _ _ _ rfl _ _ rfl _ _ rfl) ?_; clear h; rintro _ w ⟨rfl, h⟩; try dsimp only [Act.put]) | (refine wl_runs rfl (ex_store1s h _ _ _ rfl _ _ rfl _ _ _ rfl) ?_; clear h; rintro _ w ⟨rfl, h⟩; try dsimp only [Act.put]) | (refine wl_runs rfl (ex_store1b h _ _ _ rfl _ _ rfl _ rfl) ?_; clear h; rintro _ w ⟨rfl, h⟩; try dsimp only [Act.put]) | (refine wl_runs rfl (ex_store1t h _ _ _ rfl _ _ rfl _ rfl) ?_; clear h; rintro _ w ⟨rfl, h⟩; try dsimp only [Act.put]) | (refine wl_runs rfl (ex_store1p h _ _ _ rfl _ _ rfl _ rfl) ?_; clear h; rintro _ w ⟨rfl, h⟩; try dsimp only [Act.put]) | (refine wl_runs rfl (ex_store1m h _ _ _ rfl _ _ rfl _ rfl) ?_; clear h; rintro _ w ⟨rfl, h⟩; try dsimp only [Act.put]) | (refine wl_runs rfl (ex_store h _ _ _ rfl _ _ rfl _ rfl) ?_; clear h; rintro _ w ⟨rfl, h⟩; try dsimp only [Act.put]) | (refine wl_runs rfl (ex_alloc h _ rfl) ?_; clear h; rintro _ w ⟨g, rfl, h⟩) | (refine wl_runs rfl (ex_box h _ _ rfl _ rfl) ?_; clear h; rintro _ w ⟨g, rfl, h⟩) | (refine wl_runs rfl (ex_box1i h _ _ rfl _ _ rfl) ?_; clear h; rintro _ w ⟨g, rfl, h⟩) | (refine wl_runs rfl (ex_box1s h _ _ rfl _ _ _ rfl) ?_; clear h; rintro _ w ⟨g, rfl, h⟩) | (refine wl_runs rfl (ex_box1b h _ _ rfl _ rfl) ?_; clear h; rintro _ w ⟨g, rfl, h⟩) | (refine wl_runs rfl (ex_box1t h _ _ rfl _ rfl) ?_; clear h; rintro _ w ⟨g, rfl, h⟩) | (refine wl_runs rfl (ex_box1p h _ _ rfl _ rfl) ?_; clear h; rintro _ w ⟨g, rfl, h⟩) | (refine wl_runs rfl (ex_box1m h _ _ rfl _ rfl) ?_; clear h; rintro _ w ⟨g, rfl, h⟩) | (refine wl_runs rfl (ex_slice1 h _ _ rfl _ rfl) ?_; clear h; rintro _ w ⟨g, rfl, h⟩) | (refine wl_runs rfl (ex_slice1i h _ _ rfl _ _ rfl) ?_; clear h; rintro _ w ⟨g, rfl, h⟩) | (refine wl_runs rfl (ex_slice1s h _ _ rfl _ _ _ rfl) ?_; clear h; rintro _ w ⟨g, rfl, h⟩) | (refine wl_runs rfl (ex_slice1b h _ _ rfl _ rfl) ?_; clear h; rintro _ w ⟨g, rfl, h⟩) | (refine wl_runs rfl (ex_slice1t h _ _ rfl _ rfl) ?_; clear h; rintro _ w ⟨g, rfl, h⟩) | (refine wl_runs rfl (ex_slice1p h _ _ rfl _ rfl) ?_; clear h; rintro _ w ⟨g, rfl, h⟩) | (refine wl_runs rfl (ex_slice1m h _ _ rfl _ rfl) ?_; clear h; rintro _ w ⟨g, rfl, h⟩) | (refine wl_reads rfl (ex_lit0 _ rfl) ?_))
    exact bodyPost_ret (res_cell1 rfl rfl (h.loadVar 85 gi 0)) rfl ⟨rfl, h.to⟩
  | some r =>
    have hsp := idT_spec hi
    obtain ⟨x, hx⟩ : ∃ x, (idT s).1 = x := ⟨_, rfl⟩
    rw [hx] at hsp ⊢
    have hraw : rawT 32 s = (x.1, some r) := by
      have := rawT_app x.1 r
      rw [x.2] at this
      rw [hsp, this]
    have Hr := Lib.hid hraw
    have Hxl := Lib.hid x.2
    have hrow : Row (u8s x.1) 32 := Row.u32 x
    clear hraw hi hsp hx
    go_enter Try.func84, Try.ntmps84
    go_upto_region 4 with (first
      | (refine wl_runs rfl (ex_alloc h 85 rfl) ?_; clear h; rintro _ w ⟨gi, rfl, h⟩)
      | (go_at_call 108; refine (rr_raw (m := 32) h (by omega)).mono ?_; rw [Hr.out]; simp only [Hxl.out]; clear h; rintro e w ⟨A, c, rfl, h⟩)
      | (refine wl_reads rfl (ex_loadv h _ _ rfl _ _ rfl) ?_) | (refine wl_runs rfl (ex_store1i h _ _ _ rfl _ _ rfl _ _ rfl) ?_; clear h; rintro _ w ⟨rfl, h⟩; try dsimp only [Act.put]) | (refine wl_runs rfl (ex_store1s h _ _ _ rfl _ _ rfl _ _ _ rfl) ?_; clear h; rintro _ w ⟨rfl, h⟩; try dsimp only [Act.put]) | (refine wl_runs rfl (ex_store1b h _ _ _ rfl _ _ rfl _ rfl) ?_; clear h; rintro _ w ⟨rfl, h⟩; try dsimp only [Act.put]) | (refine wl_runs rfl (ex_store1t h _ _ _ rfl _ _ rfl _ rfl) ?_; clear h; rintro _ w ⟨rfl, h⟩; try dsimp only [Act.put]) | (refine wl_runs rfl (ex_store1p h _ _ _ rfl _ _ rfl _ rfl) ?_; clear h; rintro _ w ⟨rfl, h⟩; try dsimp only [Act.put]) | (refine wl_runs rfl (ex_store1m h _ _ _ rfl _ _ rfl _ rfl) ?_; clear h; rintro _ w ⟨rfl, h⟩; try dsimp only [Act.put]) | (refine wl_runs rfl (ex_store h _ _ _ rfl _ _ rfl _ rfl) ?_; clear h; rintro _ w ⟨rfl, h⟩; try dsimp only [Act.put]) | (refine wl_runs rfl (ex_alloc h _ rfl) ?_; clear h; rintro _ w ⟨g, rfl, h⟩) | (refine wl_runs rfl (ex_box h _ _ rfl _ rfl) ?_; clear h; rintro _ w ⟨g, rfl, h⟩) | (refine wl_runs rfl (ex_box1i h _ _ rfl _ _ rfl) ?_; clear h; rintro _ w ⟨g, rfl, h⟩) | (refine wl_runs rfl (ex_box1s h _ _ rfl _ _ _ rfl) ?_; clear h; rintro _ w ⟨g, rfl, h⟩) | (refine wl_runs rfl (ex_box1b h _ _ rfl _ rfl) ?_; clear h; rintro _ w ⟨g, rfl, h⟩) | (refine wl_runs rfl (ex_box1t h _ _ rfl _ rfl) ?_; clear h; rintro _ w ⟨g, rfl, h⟩) | (refine wl_runs rfl (ex_box1p h _ _ rfl _ rfl) ?_; clear h; rintro _ w ⟨g, rfl, h⟩) | (refine wl_runs rfl (ex_box1m h _ _ rfl _ rfl) ?_; clear h; rintro _ w ⟨g, rfl, h⟩) | (refine wl_runs rfl (ex_slice1 h _ _ rfl _ rfl) ?_; clear h; rintro _ w ⟨g, rfl, h⟩) | (refine wl_runs rfl (ex_slice1i h _ _ rfl _ _ rfl) ?_; clear h; rintro _ w ⟨g, rfl, h⟩) | (refine wl_runs rfl (ex_slice1s h _ _ rfl _ _ _ rfl) ?_; clear h; rintro _ w ⟨g, rfl, h⟩) | (refine wl_runs rfl (ex_slice1b h _ _ rfl _ rfl) ?_; clear h; rintro _ w ⟨g, rfl, h⟩) | (refine wl_runs rfl (ex_slice1t h _ _ rfl _ rfl) ?_; clear h; rintro _ w ⟨g, rfl, h⟩) | (refine wl_runs rfl (ex_slice1p h _ _ rfl _ rfl) ?_; clear h; rintro _ w ⟨g, rfl, h⟩) | (refine wl_runs rfl (ex_slice1m h _ _ rfl _ rfl) ?_; clear h; rintro _ w ⟨g, rfl, h⟩) | (refine wl_reads rfl (ex_lit0 _ rfl) ?_))
    obtain ⟨b, off, rfl, hbl, hcs⟩ := (h.sl A 32 c).pos (by omega)
    have hat : ∀ W', (Instr.arrayAt 85 (.slice (some ⟨b, off, none⟩) 32 c)).run Try.prog W' = .ok (.pointer (some ⟨b, off, none⟩)) W' := fun W' => run_arrayAt _ _ _ 32 _ _ _ Try.underlying85 (Nat.le_refl _)
    go_wp2_with (first
      | (refine wl_reads rfl (ex_load_at _ _ rfl b off rfl (u8s x.1) (by rw [u8s_length, Hxl.out]) hcs) ?_)
      | (refine wl_reads rfl (ex_loadv h _ _ rfl _ _ rfl) ?_) | (refine wl_runs rfl (ex_store1i h _ _ _ rfl _ _ rfl _ _ rfl) ?_; clear h; rintro _ w ⟨rfl, h⟩; try dsimp only [Act.put]) | (refine wl_runs rfl (ex_store1s h _ _ _ rfl _ _ rfl _ _ _ rfl) ?_; clear h; rintro _ w ⟨rfl, h⟩; try dsimp only [Act.put]) | (refine wl_runs rfl (ex_store1b h _ _ _ rfl _ _ rfl _ rfl) ?_; clear h; rintro _ w ⟨rfl, h⟩; try dsimp only [Act.put]) | (refine wl_runs rfl (ex_store1t h _ _ _ rfl _ _ rfl _ rfl) ?_; clear h; rintro _ w ⟨rfl, h⟩; try dsimp only [Act.put]) | (refine wl_runs rfl (ex_store1p h _ _ _ rfl _ _ rfl _ rfl) ?_; clear h; rintro _ w ⟨rfl, h⟩; try dsimp only [Act.put]) | (refine wl_runs rfl (ex_store1m h _ _ _ rfl _ _ rfl _ rfl) ?_; clear h; rintro _ w ⟨rfl, h⟩; try dsimp only [Act.put]) | (refine wl_runs rfl (ex_store h _ _ _ rfl _ _ rfl _ rfl) ?_; clear h; rintro _ w ⟨rfl, h⟩; try dsimp only [Act.put]) | (refine wl_runs rfl (ex_alloc h _ rfl) ?_; clear h; rintro _ w ⟨g, rfl, h⟩) | (refine wl_runs rfl (ex_box h _ _ rfl _ rfl) ?_; clear h; rintro _ w ⟨g, rfl, h⟩) | (refine wl_runs rfl (ex_box1i h _ _ rfl _ _ rfl) ?_; clear h; rintro _ w ⟨g, rfl, h⟩) | (refine wl_runs rfl (ex_box1s h _ _ rfl _ _ _ rfl) ?_; clear h; rintro _ w ⟨g, rfl, h⟩) | (refine wl_runs rfl (ex_box1b h _ _ rfl _ rfl) ?_; clear h; rintro _ w ⟨g, rfl, h⟩) | (refine wl_runs rfl (ex_box1t h _ _ rfl _ rfl) ?_; clear h; rintro _ w ⟨g, rfl, h⟩) | (refine wl_runs rfl (ex_box1p h _ _ rfl _ rfl) ?_; clear h; rintro _ w ⟨g, rfl, h⟩) | (refine wl_runs rfl (ex_box1m h _ _ rfl _ rfl) ?_; clear h; rintro _ w ⟨g, rfl, h⟩) | (refine wl_runs rfl (ex_slice1 h _ _ rfl _ rfl) ?_; clear h; rintro _ w ⟨g, rfl, h⟩) | (refine wl_runs rfl (ex_slice1i h _ _ rfl _ _ rfl) ?_; clear h; rintro _ w ⟨g, rfl, h⟩) | (refine wl_runs rfl (ex_slice1s h _ _ rfl _ _ _ rfl) ?_; clear h; rintro _ w ⟨g, rfl, h⟩) | (refine wl_runs rfl (ex_slice1b h _ _ rfl _ rfl) ?_; clear h; rintro _ w ⟨g, rfl, h⟩) | (refine wl_runs rfl (ex_slice1t h _ _ rfl _ rfl) ?_; clear h; rintro _ w ⟨g, rfl, h⟩) | (refine wl_runs rfl (ex_slice1p h _ _ rfl _ rfl) ?_; clear h; rintro _ w ⟨g, rfl, h⟩) | (refine wl_runs rfl (ex_slice1m h _ _ rfl _ rfl) ?_; clear h; rintro _ w ⟨g, rfl, h⟩) | (refine wl_reads rfl (ex_lit0 _ rfl) ?_))
    exact bodyPost_ret (res_cell1 rfl rfl (h.loadVar 85 gi 0)) rfl ⟨rfl, h.to⟩

/-- What the reference's loop over ids reaches: so many more, with what was told. -/
theorem idsN_go {n : Nat} {s : RS} {r : List UInt8} (h : (idT s).2 = some r) : idsN (n + 1) s = ((idT s).1 :: (idsN n (some r)).1, (idsN n (some r)).2) := by rw [idsN, h]
theorem idsN_no {n : Nat} {s : RS} (h : (idT s).2 = none) : idsN (n + 1) s = ([], none) := by rw [idsN, h]
set_option maxRecDepth 100000 in
set_option maxHeartbeats 1000000 in
theorem rr_ids (h : St S w0 w L) [k : SlotR L g 139 false R s F] {most : Nat} (hm : most ≤ 100000) : Calls Try.prog 77 #[.pointer (some ⟨g, 0, none⟩), .int .i64 (most : Int)] w fun e w' => ∃ A c, e = .returned (.slice A (idsT most s).1.length c) ∧ St S w0 w' (eRd 139 false g R (idsT most s).2 :: eOwn 85 32 A (idsT most s).1.length c ((idsT most s).1.flatMap idc) :: F) := by
  have hle := numT_le most s
  obtain ⟨Y, hY⟩ : ∃ Y, idsT most s = Y := ⟨_, rfl⟩
  have HY := Lib.hid hY
  rw [hY]
  clear hY
  obtain ⟨I, s2⟩ := Y
  obtain ⟨N, hN⟩ : ∃ N, numT most s = N := ⟨_, rfl⟩
  have HN := Lib.hid hN
  rw [hN] at hle
  clear hN
  obtain ⟨n, s1⟩ := N
  simp only at hle ⊢
  have HZ := Lib.hid (show ∀ p, idsN n s1 = p → (I, s2) = match p.2 with | none => ([], none) | some r => (p.1, some r) from fun p hp => by rw [← HY.out, idsT, HN.out]; simp only; rw [hp]; obtain ⟨a, b⟩ := p; cases b <;> rfl)
  have hn0 : s1 = none → n = 0 := fun e => by
    have h1 := HN.out
    rw [e] at h1
    unfold numT at h1
    split at h1
    · cases h1
    · cases h1; rfl
  have Hn0 := Lib.hid hn0
  clear hn0
  go_enter Try.func77, Try.ntmps77
  go_wp2_with (first
    | (go_at_call 76; refine (rr_n (most := most) h (by omega)).mono ?_; rw [HN.out]; clear h; rintro e w ⟨rfl, h⟩)
    | (refine wl_reads rfl (ex_loadv h _ _ rfl _ _ rfl) ?_) | (refine wl_runs rfl (ex_store1i h _ _ _ rfl _ _ rfl _ _ rfl) ?_; clear h; rintro _ w ⟨rfl, h⟩; try dsimp only [Act.put]) | (refine wl_runs rfl (ex_store1s h _ _ _ rfl _ _ rfl _ _ _ rfl) ?_; clear h; rintro _ w ⟨rfl, h⟩; try dsimp only [Act.put]) | (refine wl_runs rfl (ex_store1b h _ _ _ rfl _ _ rfl _ rfl) ?_; clear h; rintro _ w ⟨rfl, h⟩; try dsimp only [Act.put]) | (refine wl_runs rfl (ex_store1t h _ _ _ rfl _ _ rfl _ rfl) ?_; clear h; rintro _ w ⟨rfl, h⟩; try dsimp only [Act.put]) | (refine wl_runs rfl (ex_store1p h _ _ _ rfl _ _ rfl _ rfl) ?_; clear h; rintro _ w ⟨rfl, h⟩; try dsimp only [Act.put]) | (refine wl_runs rfl (ex_store1m h _ _ _ rfl _ _ rfl _ rfl) ?_; clear h; rintro _ w ⟨rfl, h⟩; try dsimp only [Act.put]) | (refine wl_runs rfl (ex_store h _ _ _ rfl _ _ rfl _ rfl) ?_; clear h; rintro _ w ⟨rfl, h⟩; try dsimp only [Act.put]) | (refine wl_runs rfl (ex_alloc h _ rfl) ?_; clear h; rintro _ w ⟨g, rfl, h⟩) | (refine wl_runs rfl (ex_box h _ _ rfl _ rfl) ?_; clear h; rintro _ w ⟨g, rfl, h⟩) | (refine wl_runs rfl (ex_box1i h _ _ rfl _ _ rfl) ?_; clear h; rintro _ w ⟨g, rfl, h⟩) | (refine wl_runs rfl (ex_box1s h _ _ rfl _ _ _ rfl) ?_; clear h; rintro _ w ⟨g, rfl, h⟩) | (refine wl_runs rfl (ex_box1b h _ _ rfl _ rfl) ?_; clear h; rintro _ w ⟨g, rfl, h⟩) | (refine wl_runs rfl (ex_box1t h _ _ rfl _ rfl) ?_; clear h; rintro _ w ⟨g, rfl, h⟩) | (refine wl_runs rfl (ex_box1p h _ _ rfl _ rfl) ?_; clear h; rintro _ w ⟨g, rfl, h⟩) | (refine wl_runs rfl (ex_box1m h _ _ rfl _ rfl) ?_; clear h; rintro _ w ⟨g, rfl, h⟩) | (refine wl_runs rfl (ex_slice1 h _ _ rfl _ rfl) ?_; clear h; rintro _ w ⟨g, rfl, h⟩) | (refine wl_runs rfl (ex_slice1i h _ _ rfl _ _ rfl) ?_; clear h; rintro _ w ⟨g, rfl, h⟩) | (refine wl_runs rfl (ex_slice1s h _ _ rfl _ _ _ rfl) ?_; clear h; rintro _ w ⟨g, rfl, h⟩) | (refine wl_runs rfl (ex_slice1b h _ _ rfl _ rfl) ?_; clear h; rintro _ w ⟨g, rfl, h⟩) | (refine wl_runs rfl (ex_slice1t h _ _ rfl _ rfl) ?_; clear h; rintro _ w ⟨g, rfl, h⟩) | (refine wl_runs rfl (ex_slice1p h _ _ rfl _ rfl) ?_; clear h; rintro _ w ⟨g, rfl, h⟩) | (refine wl_runs rfl (ex_slice1m h _ _ rfl _ rfl) ?_; clear h; rintro _ w ⟨g, rfl, h⟩) | (refine wl_reads rfl (ex_lit0 _ rfl) ?_))
  replace h := h.nilRow 85 32
  go_loopw [6, 7] (fun v i wr => ∃ (j : Nat) (A : Option Addr) (m c : Nat) (q : List Id) (s' : RS), v = .slice A m c ∧ i = .int .u64 (j : Int) ∧ j ≤ n ∧ m ≤ j ∧ St S w0 wr (eRd 139 false g R s' :: eOwn 85 32 A m c (q.flatMap idc) :: F) ∧ Hid (m = q.length) ∧
    Hid ((∃ r, s' = some r ∧ idsN n s1 = (q ++ (idsN (n - j) s').1, (idsN (n - j) s').2)) ∨ (s' = none ∧ (idsN n s1).2 = none))) (fun _ i _ => n - (intOf i).toNat)
  case atStart =>
    refine ⟨0, none, 0, 0, [], s1, rfl, rfl, Nat.zero_le _, Nat.zero_le _, ?_, Lib.hid rfl, Lib.hid ?_⟩
    · have h5 : St S w0 w (eRd 139 false g R s1 :: eOwn 85 32 none 0 0 [] :: F) := h.to
      exact h5
    · cases s1 with
      | none => rw [Hn0.out rfl]; exact .inr ⟨rfl, rfl⟩
      | some r => exact .inl ⟨r, rfl, by simp⟩
  case round =>
    clear h
    obtain ⟨j, A, m, c, q, s', rfl, rfl, hj, hmj, h, Hm, Hq⟩ := hrel
    obtain ⟨A0, n0, c0, hb, _, _, _⟩ := h.rdBlk g
    have c1 : wr.cell? ⟨g, 1, none⟩ = some (.bool (s'.isSome == false)) := hb.cell 1
    clear hb
    by_cases hlt : j < n
    · cases s' with
      | none =>
        replace c1 : wr.cell? ⟨g, 1, none⟩ = some (.bool true) := c1
        have hz : (idsN n s1).2 = none := by
          rcases Hq.out with ⟨r, h1, _⟩ | ⟨_, h1⟩
          · cases h1
          · exact h1
        obtain ⟨rfl, rfl⟩ : I = [] ∧ s2 = none := by
          have h1 := HZ.out _ rfl
          rw [hz] at h1
          cases h1
          exact ⟨rfl, rfl⟩
        clear hz
        go_wp2
        go_ret
        refine ⟨none, 0, rfl, ?_⟩
        have h5 : St S w0 wr (eRd 139 false g R none :: eOwn 85 32 none 0 0 [] :: F) := (h.nilRow 85 32).to
        exact h5
      | some r =>
        replace c1 : wr.cell? ⟨g, 1, none⟩ = some (.bool false) := c1
        obtain ⟨x, hx⟩ : ∃ x, (idT (some r)).1 = x := ⟨_, rfl⟩
        have hq2 : (∃ r', (idT (some r)).2 = some r' ∧ idsN n s1 = ((q ++ [x]) ++ (idsN (n - (j + 1)) (idT (some r)).2).1, (idsN (n - (j + 1)) (idT (some r)).2).2)) ∨ ((idT (some r)).2 = none ∧ (idsN n s1).2 = none) := by
          rcases Hq.out with ⟨r0, h1, h2⟩ | ⟨h1, _⟩
          · cases h1
            have e : n - j = (n - (j + 1)) + 1 := by omega
            rw [e] at h2
            cases hi : (idT (some r)).2 with
            | none => exact .inr ⟨rfl, by rw [h2, idsN_no hi]⟩
            | some r' => exact .inl ⟨r', rfl, by rw [h2, idsN_go hi, hx]; simp⟩
          · cases h1
        have Hq2 := Lib.hid hq2
        have hrx : Row (u8s x.1) 32 := Row.u32 x
        have Hx := Lib.hid hx
        clear hq2 hx Hq
        go_wp2_with (first
          | (go_at_call 84; refine (rr_id (g := g) h).mono ?_; rw [Hx.out]; clear h c1; rintro e w ⟨rfl, h⟩)
          | (refine wl_runs rfl (ex_append h _ _ _ rfl A rfl (some ⟨g, 0, none⟩) 1 1 rfl (h.slBox g) hrx.one (by simp [maxLen]; omega) (by omega)) ?_; clear h; rintro _ w ⟨A2, c2, rfl, h⟩)
          | (refine wl_reads rfl (ex_loadv h _ _ rfl _ _ rfl) ?_) | (refine wl_runs rfl (ex_store1i h _ _ _ rfl _ _ rfl _ _ rfl) ?_; clear h; rintro _ w ⟨rfl, h⟩; try dsimp only [Act.put]) | (refine wl_runs rfl (ex_store1s h _ _ _ rfl _ _ rfl _ _ _ rfl) ?_; clear h; rintro _ w ⟨rfl, h⟩; try dsimp only [Act.put]) | (refine wl_runs rfl (ex_store1b h _ _ _ rfl _ _ rfl _ rfl) ?_; clear h; rintro _ w ⟨rfl, h⟩; try dsimp only [Act.put]) | (refine wl_runs rfl (ex_store1t h _ _ _ rfl _ _ rfl _ rfl) ?_; clear h; rintro _ w ⟨rfl, h⟩; try dsimp only [Act.put]) | (refine wl_runs rfl (ex_store1p h _ _ _ rfl _ _ rfl _ rfl) ?_; clear h; rintro _ w ⟨rfl, h⟩; try dsimp only [Act.put]) | (refine wl_runs rfl (ex_store1m h _ _ _ rfl _ _ rfl _ rfl) ?_; clear h; rintro _ w ⟨rfl, h⟩; try dsimp only [Act.put]) | (refine wl_runs rfl (ex_store h _ _ _ rfl _ _ rfl _ rfl) ?_; clear h; rintro _ w ⟨rfl, h⟩; try dsimp only [Act.put]) | (refine wl_runs rfl (ex_alloc h _ rfl) ?_; clear h; rintro _ w ⟨g, rfl, h⟩) | (refine wl_runs rfl (ex_box h _ _ rfl _ rfl) ?_; clear h; rintro _ w ⟨g, rfl, h⟩) | (refine wl_runs rfl (ex_box1i h _ _ rfl _ _ rfl) ?_; clear h; rintro _ w ⟨g, rfl, h⟩) | (refine wl_runs rfl (ex_box1s h _ _ rfl _ _ _ rfl) ?_; clear h; rintro _ w ⟨g, rfl, h⟩) | (refine wl_runs rfl (ex_box1b h _ _ rfl _ rfl) ?_; clear h; rintro _ w ⟨g, rfl, h⟩) | (refine wl_runs rfl (ex_box1t h _ _ rfl _ rfl) ?_; clear h; rintro _ w ⟨g, rfl, h⟩) | (refine wl_runs rfl (ex_box1p h _ _ rfl _ rfl) ?_; clear h; rintro _ w ⟨g, rfl, h⟩) | (refine wl_runs rfl (ex_box1m h _ _ rfl _ rfl) ?_; clear h; rintro _ w ⟨g, rfl, h⟩) | (refine wl_runs rfl (ex_slice1 h _ _ rfl _ rfl) ?_; clear h; rintro _ w ⟨g, rfl, h⟩) | (refine wl_runs rfl (ex_slice1i h _ _ rfl _ _ rfl) ?_; clear h; rintro _ w ⟨g, rfl, h⟩) | (refine wl_runs rfl (ex_slice1s h _ _ rfl _ _ _ rfl) ?_; clear h; rintro _ w ⟨g, rfl, h⟩) | (refine wl_runs rfl (ex_slice1b h _ _ rfl _ rfl) ?_; clear h; rintro _ w ⟨g, rfl, h⟩) | (refine wl_runs rfl (ex_slice1t h _ _ rfl _ rfl) ?_; clear h; rintro _ w ⟨g, rfl, h⟩) | (refine wl_runs rfl (ex_slice1p h _ _ rfl _ rfl) ?_; clear h; rintro _ w ⟨g, rfl, h⟩) | (refine wl_runs rfl (ex_slice1m h _ _ rfl _ rfl) ?_; clear h; rintro _ w ⟨g, rfl, h⟩) | (refine wl_reads rfl (ex_lit0 _ rfl) ?_))
        have hql : (q ++ [x]).length = m + 1 := by rw [Hm.out]; simp
        have hfl : (q ++ [x]).flatMap idc = q.flatMap idc ++ u8s x.1 := by simp [idc]
        have Hq3 : Hid ((∃ r_1, (idT (some r)).2 = some r_1 ∧ idsN n s1 = ((q ++ [x]) ++ (idsN (n - (j + 1)) (idT (some r)).2).1, (idsN (n - (j + 1)) (idT (some r)).2).2)) ∨ ((idT (some r)).2 = none ∧ (idsN n s1).2 = none)) := Hq2
        have Hql := Lib.hid hql.symm
        go_roundw
        case rel => exact ⟨j + 1, A2, m + 1, c2, q ++ [x], _, rfl, by go_num, by omega, by omega, by rw [hfl]; exact h.to, Hql, Hq3⟩
        case measure => simp [intOf]; omega
    · have hjn : ¬ (j : Int) < (n : Int) := by omega
      have hz : n - j = 0 := by omega
      have Hq2 := Lib.hid (show (∃ r, s' = some r ∧ idsN n s1 = (q, s')) ∨ (s' = none ∧ (idsN n s1).2 = none) from by
        rcases Hq.out with ⟨r, h1, h2⟩ | h1
        · rw [hz, idsN, List.append_nil] at h2
          exact .inl ⟨r, h1, h2⟩
        · exact .inr h1)
      clear Hq hz
      cases s' with
      | none =>
        replace c1 : wr.cell? ⟨g, 1, none⟩ = some (.bool true) := c1
        obtain ⟨rfl, rfl⟩ : I = [] ∧ s2 = none := by
          have h1 := HZ.out _ rfl
          rcases Hq2.out with ⟨r, h2, _⟩ | ⟨_, h2⟩
          · cases h2
          · rw [h2] at h1
            cases h1
            exact ⟨rfl, rfl⟩
        go_wp2
        go_ret
        refine ⟨none, 0, rfl, ?_⟩
        have h5 : St S w0 wr (eRd 139 false g R none :: eOwn 85 32 none 0 0 [] :: F) := (h.nilRow 85 32).to
        exact h5
      | some r =>
        replace c1 : wr.cell? ⟨g, 1, none⟩ = some (.bool false) := c1
        obtain ⟨rfl, rfl⟩ : I = q ∧ s2 = some r := by
          have h1 := HZ.out _ rfl
          rcases Hq2.out with ⟨r2, h2, h3⟩ | ⟨h2, _⟩
          · rw [h3] at h1
            cases h1
            exact ⟨rfl, rfl⟩
          · cases h2
        go_wp2
        go_ret
        exact ⟨A, c, by rw [← Hm.out]; rfl, by rw [← Hm.out]; exact h⟩
end
end Go.Proofs.Ytnokgejmlpmgfaa
