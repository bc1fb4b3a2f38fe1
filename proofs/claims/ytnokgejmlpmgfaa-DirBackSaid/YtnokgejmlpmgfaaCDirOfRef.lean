/- The entries that bytes are: the reference. -/
import Derived.Test.YtnokgejmlpmgfaaCDirOf
import Derived.Test.YtnokgejmlpmgfaaCDirPutRef
import Derived.Test.YtnokgejmlpmgfaaCRrCode
namespace Go.Proofs.Ytnokgejmlpmgfaa
open Go.RowKit
set_option linter.unusedVariables false
set_option linter.unusedSimpArgs false

theorem dirOf_rowsR {b : List UInt8} {N : Nat} {s1 : RS} {acc : List En} {s' : RS} (h1 : numT 500 (some b) = (N, s1)) (h2 : rowR N s1 = (acc, s')) :
    dirOf b = if s' = some [] ∧ dirM acc = true then some acc else none := by
  obtain ⟨e1, e2⟩ := row_same N s1
  rw [h2] at e1 e2
  simp only at e1 e2
  by_cases hs : s' = none
  · rw [dirOf_rows (acc := (rowC N s1).1) (s' := s') h1 (by rw [e1])]
    simp [hs]
  · rw [dirOf_rows (acc := acc) (s' := s') h1 (by rw [e1, e2 (fun h => hs (e1.trans h))])]
theorem rowR_enB : ∀ (n : Nat) (s : RS), ∀ e ∈ (rowR n s).1, EnB e
  | 0, s, e, he => by cases he
  | n + 1, s, e, he => by
    rw [rowR] at he
    split at he
    · cases he
    · rcases List.mem_cons.1 he with rfl | he
      · exact entT_ok s
      · exact rowR_enB n _ e he
theorem str_eq_selfD (l : List UInt8) : ((str l).toList == (str l).toList) = true := by simp
set_option maxRecDepth 100000 in
set_option maxHeartbeats 4000000 in
theorem dir_of_ref {S : Nat → Prop} {w0 w : World} {L F : List Ent} {A : Option Addr} {n c : Nat} {l : List UInt8} (h : St S w0 w L) [ka : Slot L (eSl A n c 1 (u8s l)) F] (hn : n ≤ 100000000) :
    Calls Try.prog 36 #[.slice A n c] w fun e w' => ∃ A' c', e = .returned (.tuple #[.slice A' ((dirOf l).getD []).length c', .int .i64 (codeD (dirOf l))]) ∧ St S w0 w' (eOwn 87 100 A' ((dirOf l).getD []).length c' (((dirOf l).getD []).flatMap enK) :: L) := by
  replace h := h.perm ka.perm
  obtain ⟨O, hO⟩ : ∃ O, dirOf l = O := ⟨_, rfl⟩
  rw [hO]
  have HO := Lib.hid hO
  obtain ⟨N, s1, h1⟩ : ∃ N s1, numT 500 (some l) = (N, s1) := ⟨_, _, rfl⟩
  have bN := numT_le 500 (some l)
  rw [h1] at bN
  simp only at bN
  have Hyes : Hid (∀ acc, rowR N s1 = (acc, some []) → dirM acc = true → O = some acc) := Lib.hid fun acc h2 h3 => by rw [← hO, dirOf_rowsR h1 h2, if_pos ⟨rfl, h3⟩]
  have Hno : Hid (∀ acc s', rowR N s1 = (acc, s') → ¬ (s' = some [] ∧ dirM acc = true) → O = none) := Lib.hid fun acc s' h2 h3 => by rw [← hO, dirOf_rowsR h1 h2, if_neg h3]
  have H1 := Lib.hid h1
  clear h1 hO
  go_enter Try.func36, Try.ntmps36
  go_wp2_with (first
    | (refine wl_at 12 rfl ?_; refine wl_reads rfl (ex_lit _ _ rfl [(0, .slice A n c)] rfl) ?_)
    | (refine wl_at 13 rfl ?_; refine wl_runs rfl (ex_box h 139 _ rfl _ rfl) ?_; clear h; rintro _ w ⟨g, rfl, h⟩; replace h := h.newRd (l := l) (t := 139) (good := false) g)
    | (go_at_call 76; refine (rr_n (most := 500) h (by omega)).mono ?_; rw [H1.out]; clear h; rintro e w ⟨rfl, h⟩))
  replace h := h.nilRow 87 100
  obtain ⟨R, hR⟩ : ∃ R, Ft A n = R := ⟨_, rfl⟩
  rw [hR] at h
  clear hR
  go_loopw [6, 7] (fun v i wr => ∃ (j : Nat) (A1 : Option Addr) (c1 : Nat) (acc : List En) (s' : RS), v = .slice A1 acc.length c1 ∧ i = .int .u64 (j : Int) ∧ j ≤ N ∧ acc.length ≤ j ∧ Hid (Goes rowR N s1 acc (N - j) s') ∧ Hid (∀ e ∈ acc, EnB e) ∧ St S w0 wr (eRd 139 false g R s' :: eOwn 87 100 A1 acc.length c1 (acc.flatMap enK) :: eSl A n c 1 (u8s l) :: F)) (fun _ i _ => N - (intOf i).toNat)
  case atStart =>
    have h5 : St S w0 w (eRd 139 false g R s1 :: eOwn 87 100 none 0 0 [] :: eSl A n c 1 (u8s l) :: F) := h.to
    exact ⟨0, none, 0, [], s1, rfl, rfl, Nat.zero_le _, Nat.le_refl _, Lib.hid (goes_start _ _ _), Lib.hid (fun e he => by cases he), h5⟩
  case round =>
    clear h
    obtain ⟨j, A1, c1, acc, s', rfl, rfl, hj, haj, Hgo, Hacc, h⟩ := hrel
    obtain ⟨A0, n0, c0, hb, _, _, _⟩ := h.rdBlk g
    have cb : wr.cell? ⟨g, 1, none⟩ = some (.bool (s'.isSome == false)) := hb.cell 1
    clear hb
    by_cases hgo : j < N ∧ s' ≠ none
    · obtain ⟨hjn, hsn⟩ := hgo
      have f1 : decide ((j : Int) < (N : Int)) = true := by simp; omega
      have f1n : decide (j < N) = true := by simp; omega
      replace cb : wr.cell? ⟨g, 1, none⟩ = some (.bool false) := by
        cases s' with
        | none => exact absurd rfl hsn
        | some r => exact cb
      have Hgo2 : Hid (Goes rowR N s1 acc ((N - (j + 1)) + 1) s') := Lib.hid (by have := Hgo.out; rwa [show N - j = (N - (j + 1)) + 1 by omega] at this)
      obtain ⟨b, s2, i1⟩ : ∃ b s2, idT s' = (b, s2) := ⟨_, _, rfl⟩
      obtain ⟨t, s3, i2⟩ : ∃ t s3, textT 64 s2 = (t, s3) := ⟨_, _, rfl⟩
      obtain ⟨q, s4, i3⟩ : ∃ q s4, numT 4 s3 = (q, s4) := ⟨_, _, rfl⟩
      obtain ⟨id, s5, i4⟩ : ∃ id s5, idT s4 = (id, s5) := ⟨_, _, rfl⟩
      obtain ⟨ky, s6, i5⟩ : ∃ ky s6, idT s5 = (ky, s6) := ⟨_, _, rfl⟩
      obtain ⟨r, s7, i6⟩ : ∃ r s7, numT 4294967295 s6 = (r, s7) := ⟨_, _, rfl⟩
      obtain ⟨u, s8, i7⟩ : ∃ u s8, numT 4294967295 s7 = (u, s8) := ⟨_, _, rfl⟩
      have he := entT_eq i1 i2 i3 i4 i5 i6 i7
      have b2 := textT_le 64 s2
      have b3 := numT_le 4 s3
      have b6 := numT_le 4294967295 s6
      have b7 := numT_le 4294967295 s7
      rw [i2] at b2
      rw [i3] at b3
      rw [i6] at b6
      rw [i7] at b7
      simp only at b2 b3 b6 b7
      have Hgo3 := Lib.hid (goesR_step Hgo2.out hsn he)
      have hB := entT_ok s'
      rw [he] at hB
      have Hacc2 : Hid (∀ e ∈ acc ++ [(⟨b, t, (q : Int), id, ky, (r : Int), (u : Int)⟩ : En)], EnB e) := Lib.hid fun e h3 => by
        rcases List.mem_append.1 h3 with h4 | h4
        · exact Hacc.out e h4
        · rw [List.mem_singleton.1 h4]; exact hB
      have I1 := Lib.hid i1
      have I2 := Lib.hid i2
      have I3 := Lib.hid i3
      have I4 := Lib.hid i4
      have I5 := Lib.hid i5
      have I6 := Lib.hid i6
      have I7 := Lib.hid i7
      have hw3 : IntKind.i64.wrap (q : Int) = (q : Int) := by rw [IntKind.wrap_i64]; omega
      have hw6 : IntKind.u32.wrap (r : Int) = (r : Int) := wrap_u32d (by omega)
      have hw7 : IntKind.u32.wrap (u : Int) = (u : Int) := wrap_u32d (by omega)
      have hsm : IntKind.u64.wrap ((j : Int) + 1) = ((j + 1 : Nat) : Int) := by have := wrap_u64d (n := j + 1) (by omega); simpa using this
      have Hlen := Lib.hid (show (acc ++ [(⟨b, t, (q : Int), id, ky, (r : Int), (u : Int)⟩ : En)]).length = acc.length + 1 by simp)
      have Hflat := Lib.hid (show (acc ++ [(⟨b, t, (q : Int), id, ky, (r : Int), (u : Int)⟩ : En)]).flatMap enK = acc.flatMap enK ++ enK ⟨b, t, (q : Int), id, ky, (r : Int), (u : Int)⟩ by simp)
      have hone := (enK_row ⟨b, t, (q : Int), id, ky, (r : Int), (u : Int)⟩).one
      have r1 : Row (u8s b.1) 32 := Row.u32 b
      have r2 : Row (u8s id.1) 32 := Row.u32 id
      have r3 : Row (u8s ky.1) 32 := Row.u32 ky
      clear hsn i1 i2 i3 i4 i5 i6 i7 he hB Hgo2 Hgo
      go_wp2_with (first
        | (have q := I1.out; clear I1; go_at_call 84; refine (rr_id (s := s') h).mono ?_; rw [q]; clear h q cb; rintro e w ⟨rfl, h⟩)
        | (have q := I2.out; clear I2; go_at_call 78; refine (rr_text (most := 64) h (by omega)).mono ?_; rw [q]; clear h q; rintro e w ⟨B1, d1, rfl, h⟩)
        | (have q := I3.out; clear I3; go_at_call 76; refine (rr_n (most := 4) (s := s3) h (by omega)).mono ?_; rw [q]; clear h q; rintro e w ⟨rfl, h⟩)
        | (have q := I4.out; clear I4; go_at_call 84; refine (rr_id (s := s4) h).mono ?_; rw [q]; clear h q; rintro e w ⟨rfl, h⟩)
        | (have q := I5.out; clear I5; go_at_call 84; refine (rr_id (s := s5) h).mono ?_; rw [q]; clear h q; rintro e w ⟨rfl, h⟩)
        | (have q := I6.out; clear I6; go_at_call 76; refine (rr_n (most := 4294967295) (s := s6) h (by omega)).mono ?_; rw [q]; clear h q; rintro e w ⟨rfl, h⟩)
        | (have q := I7.out; clear I7; go_at_call 76; refine (rr_n (most := 4294967295) (s := s7) h (by omega)).mono ?_; rw [q]; clear h q; rintro e w ⟨rfl, h⟩)
        | (refine wl_at 33 rfl ?_; refine wl_reads rfl (ex_string _ _ _ rfl Try.underlying5 Try.underlying9 B1 t.length d1 rfl (h.sl B1 t.length d1)) ?_)
        | (refine wl_at 30 rfl ?_; refine wl_reads rfl (ex_lit _ _ rfl [(0, .agg (u8s b.1).toArray)] rfl) ?_)
        | (refine wl_at 8 rfl ?_; refine wl_runs rfl (ex_alloc h 87 rfl) ?_; clear h; rintro _ w ⟨g7, rfl, h⟩)
        | (refine wl_at 55 rfl ?_; refine wl_runs rfl (ex_slice1 h _ _ rfl (enK ⟨b, t, (q : Int), id, ky, (r : Int), (u : Int)⟩) rfl) ?_; clear h; rintro _ w ⟨gq, rfl, h⟩)
        | (refine wl_at 56 rfl ?_; refine wl_runs rfl (ex_append h _ _ _ rfl A1 rfl (some ⟨gq, 0, none⟩) 1 1 rfl (h.slBox gq) hone (by simp [maxLen]; omega) (by omega)) ?_; clear h; rintro _ w ⟨A2, c2, rfl, h⟩)
        | (refine wl_at 54 rfl ?_; refine wl_reads rfl (ex_loadv h _ _ rfl _ _ rfl) ?_)
        | (refine wl_none rfl ?_; refine wl_runs rfl (ex_store1t h _ _ _ rfl _ _ rfl _ rfl) ?_; clear h; rintro _ w ⟨rfl, h⟩; try dsimp only [Act.put])
        | (refine wl_none rfl ?_; refine wl_runs rfl (ex_store1i h _ _ _ rfl _ _ rfl _ _ rfl) ?_; clear h; rintro _ w ⟨rfl, h⟩; try dsimp only [Act.put])
        | (refine wl_none rfl ?_; refine wl_runs rfl (ex_store h _ _ _ rfl _ _ rfl _ rfl) ?_; clear h; rintro _ w ⟨rfl, h⟩; try dsimp only [Act.put]))
      refine ⟨⟨j + 1, A2, c2, _, _, by rw [Hlen.out], rfl, by omega, by rw [Hlen.out]; omega, Hgo3, Hacc2, by rw [Hflat.out, Hlen.out]; exact h.to⟩, ?_⟩
      simp only [intOf]
      omega
    · have hend : rowR N s1 = (acc, s') := by
        have h9 := Hgo.out
        by_cases hs : s' = none
        · subst hs
          exact goesR_stop h9
        · have : N - j = 0 := by
            have : ¬ j < N := fun h7 => hgo ⟨h7, hs⟩
            omega
          rw [this] at h9
          exact goes_zero (fun _ => rfl) h9
      obtain ⟨J, hJ⟩ : ∃ J, decide (j < N) = J := ⟨_, rfl⟩
      have f1 : decide ((j : Int) < (N : Int)) = J := by rw [← hJ]; rw [decide_eq_decide]; omega
      obtain ⟨I, hI⟩ : ∃ I, (s'.isSome == false) = I := ⟨_, rfl⟩
      rw [hI] at cb
      have hJI : J = false ∨ (J = true ∧ I = true) := by
        cases J with
        | false => exact .inl rfl
        | true =>
          refine .inr ⟨rfl, ?_⟩
          cases s' with
          | none => exact hI.symm
          | some r => exact absurd ⟨of_decide_eq_true hJ, by simp⟩ hgo
      have Hnm : Hid (∀ e ∈ acc, e.name.length ≤ 1000000) := Lib.hid fun e he => Nat.le_trans (Hacc.out e he).2.2.2 (by decide)
      have Hok : Hid (∀ e ∈ acc, EnOk e) := Lib.hid fun e he => (Hacc.out e he).1
      clear hgo hI
      by_cases hs : s' = some []
      · have E6 := Lib.hid (show endN s' = 0 by rw [hs]; simp [endN])
        by_cases hG : dirM acc = true
        · have Hso := Lib.hid (Hyes.out acc (by rw [hend, hs]) hG)
          have HM := Lib.hid (show doutM acc = l by rw [doutM, if_pos hG]; exact (dirOf_put (HO.out.trans Hso.out)).1.symm)
          have HC := Lib.hid (show doutC acc = 0 by rw [doutC, if_pos hG])
          have hss := str_eq_selfD l
          clear hend hG hs
          rcases hJI with rfl | ⟨rfl, rfl⟩
          all_goals
            go_wp2_with (first
              | (go_at_call 80; refine (rr_end h).mono ?_; rw [E6.out]; rintro e w ⟨rfl, rfl⟩) | (go_at_call 16; refine (dput_ref (l := acc) h Hnm.out Hok.out).mono ?_; rw [HM.out, HC.out]; clear h; rintro e w ⟨A5, c5, rfl, h⟩) | (refine wl_at 73 rfl ?_; refine wl_reads rfl (ex_string _ _ _ rfl Try.underlying5 Try.underlying9 A n c rfl (h.sl A n c)) ?_)
              | (refine wl_at 71 rfl ?_; refine wl_reads rfl (ex_string _ _ _ rfl Try.underlying5 Try.underlying9 A5 l.length c5 rfl (h.sl A5 l.length c5)) ?_))
            go_ret2
            rw [Hso.out]
            have h6 : St S w0 w (eOwn 87 100 A1 acc.length c1 (acc.flatMap enK) :: eSl A n c 1 (u8s l) :: F) := h.to
            exact ⟨A1, c1, rfl, h6.perm ((ka.perm.symm).cons _)⟩
        · have Hso := Lib.hid (Hno.out acc _ hend (fun h3 => hG h3.2))
          have HC := Lib.hid (show doutC acc = 110 by rw [doutC, if_neg hG])
          obtain ⟨M, hM⟩ : ∃ M, doutM acc = M := ⟨_, rfl⟩
          have HM := Lib.hid hM
          clear hend hG hM hs
          rcases hJI with rfl | ⟨rfl, rfl⟩
          all_goals
            go_wp2_with (first | (go_at_call 80; refine (rr_end h).mono ?_; rw [E6.out]; rintro e w ⟨rfl, rfl⟩) | (go_at_call 16; refine (dput_ref (l := acc) h Hnm.out Hok.out).mono ?_; rw [HM.out, HC.out]; clear h; rintro e w ⟨A5, c5, rfl, h⟩))
            go_ret2
            rw [Hso.out]
            have h6 : St S w0 w (eOwn 87 100 none 0 0 [] :: eSl A n c 1 (u8s l) :: F) := (h.nilRow 87 100).to
            exact ⟨none, 0, rfl, h6.perm ((ka.perm.symm).cons _)⟩
      · have E6 := Lib.hid (show endN s' = 80 by rw [endN, if_neg hs])
        have Hso := Lib.hid (Hno.out acc _ hend (fun h3 => hs h3.1))
        obtain ⟨M, hM⟩ : ∃ M, doutM acc = M := ⟨_, rfl⟩
        have HM := Lib.hid hM
        obtain ⟨cc, hC⟩ : ∃ cc, doutC acc = cc := ⟨_, rfl⟩
        have HC := Lib.hid hC
        clear hend hM hC hs
        rcases hJI with rfl | ⟨rfl, rfl⟩
        all_goals
          go_wp2_with (first | (go_at_call 80; refine (rr_end h).mono ?_; rw [E6.out]; rintro e w ⟨rfl, rfl⟩) | (go_at_call 16; refine (dput_ref (l := acc) h Hnm.out Hok.out).mono ?_; rw [HM.out, HC.out]; clear h; rintro e w ⟨A5, c5, rfl, h⟩))
          go_ret2
          rw [Hso.out]
          have h6 : St S w0 w (eOwn 87 100 none 0 0 [] :: eSl A n c 1 (u8s l) :: F) := (h.nilRow 87 100).to
          exact ⟨none, 0, rfl, h6.perm ((ka.perm.symm).cons _)⟩
end Go.Proofs.Ytnokgejmlpmgfaa
