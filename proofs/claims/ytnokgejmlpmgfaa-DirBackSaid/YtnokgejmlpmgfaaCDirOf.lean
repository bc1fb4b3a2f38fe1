/- The entries that bytes are: the code. -/
import Derived.Test.YtnokgejmlpmgfaaCDirId
import Derived.Test.YtnokgejmlpmgfaaCDirGood2
import Derived.Test.YtnokgejmlpmgfaaCRdCode
namespace Go.Proofs.Ytnokgejmlpmgfaa
open Go.RowKit
set_option linter.unusedVariables false
set_option linter.unusedSimpArgs false

def codeD {α : Type} (o : Option α) : Int := if o.isSome = true then 0 else 110
theorem dirOf_rows {b : List UInt8} {N : Nat} {s1 : RS} {acc : List En} {s' : RS} (h1 : numT 500 (some b) = (N, s1)) (h2 : rowC N s1 = (acc, s')) :
    dirOf b = if s' = some [] ∧ dirM acc = true then some acc else none := by
  have : dirT b = (acc, s') := by rw [dirT, h1, h2]
  rw [dirOf, this]
theorem raw1_none {s : RS} (h : (s.getD []).length = 0) : rawT 1 s = ([], none) := by
  match s, h with
  | none, _ => rfl
  | some [], _ => simp [rawT]
theorem endN_none : endN none = 80 := by simp [endN]
set_option maxRecDepth 100000 in
set_option maxHeartbeats 4000000 in
theorem dir_of {S : Nat → Prop} {w0 w : World} {L : List Ent} {A : Option Addr} {n c : Nat} {l : List UInt8} (h : St S w0 w L) [ka : HasSl L A n c 1 (u8s l)] (hn : n ≤ 100000000) :
    Calls Try.prog 35 #[.slice A n c] w fun e w' => ∃ A' c', e = .returned (.tuple #[.slice A' ((dirOf l).getD []).length c', .int .i64 (codeD (dirOf l))]) ∧ St S w0 w' (eOwn 87 100 A' ((dirOf l).getD []).length c' (((dirOf l).getD []).flatMap enK) :: L) := by
  obtain ⟨O, hO⟩ : ∃ O, dirOf l = O := ⟨_, rfl⟩
  rw [hO]
  obtain ⟨N, s1, h1⟩ : ∃ N s1, numT 500 (some l) = (N, s1) := ⟨_, _, rfl⟩
  have bN := numT_le 500 (some l)
  rw [h1] at bN
  simp only at bN
  have Hyes : Hid (∀ acc, rowC N s1 = (acc, some []) → dirM acc = true → O = some acc) := Lib.hid fun acc h2 h3 => by rw [← hO, dirOf_rows h1 h2, if_pos ⟨rfl, h3⟩]
  have Hno : Hid (∀ acc s', rowC N s1 = (acc, s') → ¬ (s' = some [] ∧ dirM acc = true) → O = none) := Lib.hid fun acc s' h2 h3 => by rw [← hO, dirOf_rows h1 h2, if_neg h3]
  have H1 := Lib.hid h1
  clear h1 hO
  go_enter Try.func35, Try.ntmps35
  go_wp2
  go_step3
  go_wp2_with (first
    | (go_at_call 70; refine (read_code (l := l) h hn).mono ?_; clear h; rintro e w ⟨g, R, rfl, h⟩))
  go_step3
  go_wp2_with (first
    | (go_at_call 71; refine (rd_n (most := 500) h (by omega)).mono ?_; rw [H1.out]; clear h; rintro e w ⟨rfl, h⟩))
  replace h := h.nilRow 87 100
  go_loopw [5, 6] (fun v i wr => ∃ (k : Nat) (A1 : Option Addr) (c1 : Nat) (acc : List En) (s' : RS), v = .slice A1 acc.length c1 ∧ i = .int .u64 (k : Int) ∧ k ≤ N ∧ acc.length + k ≤ 500 ∧ Hid (Goes rowC N s1 acc k s') ∧ Hid (∀ e ∈ acc, EnB e) ∧ St S w0 wr (eRd 163 true g R s' :: eOwn 87 100 A1 acc.length c1 (acc.flatMap enK) :: L)) (fun _ i _ => (intOf i).toNat)
  case atStart =>
    have h5 : St S w0 w (eRd 163 true g R s1 :: eOwn 87 100 none 0 0 [] :: L) := h.to
    exact ⟨N, none, 0, [], s1, rfl, rfl, Nat.le_refl _, by simpa using bN, Lib.hid (goes_start _ _ _), Lib.hid (fun e he => by cases he), h5⟩
  case round =>
    clear h
    obtain ⟨k, A1, c1, acc, s', rfl, rfl, hk, hak, Hgo, Hacc, h⟩ := hrel
    by_cases hk0 : k = 0
    · have f1 : ¬ (0 : Int) < (k : Int) := by omega
      have hend : rowC N s1 = (acc, s') := by
        have := Hgo.out
        rw [hk0] at this
        exact goes_zero (fun _ => rfl) this
      have Hnm : Hid (∀ e ∈ acc, e.name.length ≤ maxLen) := Lib.hid fun e he => (Hacc.out e he).1.2.2.2.2.2.2
      clear hk0
      by_cases hs : s' = some []
      · subst hs
        have E6 := Lib.hid (show endN (some []) = 0 by simp [endN])
        obtain ⟨G, hG⟩ : ∃ G, dirM acc = G := ⟨_, rfl⟩
        have HG := Lib.hid hG
        cases G with
        | true =>
          have Hso := Lib.hid (Hyes.out acc hend hG)
          clear hend hG
          go_wp2_with (first | (go_at_call 74; refine (rd_end h).mono ?_; rw [E6.out]; rintro e w ⟨rfl, rfl⟩) | (go_at_call 17; refine (dir_good h Hnm.out).mono ?_; rw [HG.out]; clear h; rintro e w ⟨rfl, h⟩))
          rw [Exit.noGoto_ret]
          go_ret2
          rw [Hso.out]
          have h6 : St S w0 w (eOwn 87 100 A1 acc.length c1 (acc.flatMap enK) :: L) := h.to
          exact ⟨A1, c1, rfl, h6⟩
        | false =>
          have Hso := Lib.hid (Hno.out acc _ hend (fun h3 => by rw [hG] at h3; cases h3.2))
          clear hend hG
          go_wp2_with (first | (go_at_call 74; refine (rd_end h).mono ?_; rw [E6.out]; rintro e w ⟨rfl, rfl⟩) | (go_at_call 17; refine (dir_good h Hnm.out).mono ?_; rw [HG.out]; clear h; rintro e w ⟨rfl, h⟩))
          rw [Exit.noGoto_ret]
          go_ret2
          rw [Hso.out]
          have h6 : St S w0 w (eOwn 87 100 none 0 0 [] :: L) := (h.nilRow 87 100).to
          exact ⟨none, 0, rfl, h6⟩
      · have E6 := Lib.hid (show endN s' = 80 by rw [endN, if_neg hs])
        have Hso := Lib.hid (Hno.out acc _ hend (fun h3 => hs h3.1))
        clear hend hs
        go_wp2_with (first | (go_at_call 74; refine (rd_end h).mono ?_; rw [E6.out]; rintro e w ⟨rfl, rfl⟩))
        rw [Exit.noGoto_ret]
        go_ret2
        rw [Hso.out]
        have h6 : St S w0 wr (eOwn 87 100 none 0 0 [] :: L) := (h.nilRow 87 100).to
        exact ⟨none, 0, rfl, h6⟩
    · obtain ⟨j, hj⟩ : ∃ j, k = j + 1 := ⟨k - 1, by omega⟩
      have f1 : (0 : Int) < (k : Int) := by omega
      have Hgo2 : Hid (Goes rowC N s1 acc (j + 1) s') := Lib.hid (by have := Hgo.out; rwa [hj] at this)
      obtain ⟨m, hm⟩ : ∃ m, (s'.getD []).length = m := ⟨_, rfl⟩
      have Hm := Lib.hid hm
      clear hk0 Hgo
      by_cases hm0 : m = 0
      · have f2 : ((m : Int) == 0) = true := by simp; omega
        have hs0 : (s'.getD []).length = 0 := by omega
        have HR := Lib.hid (raw1_none hs0)
        have Hso := Lib.hid (Hno.out acc none (goesC_stop Hgo2.out hs0) (fun h3 => by cases h3.1))
        have E6 := Lib.hid endN_none
        clear hm hm0 hs0 hj
        go_wp2_with (first
          | (go_at_call 81; refine (rd_rest h).mono ?_; rw [Hm.out]; rintro e w ⟨rfl, rfl⟩)
          | (go_at_call 82; refine (rd_raw (m := 1) h (by omega)).mono ?_; rw [HR.out]; clear h; rintro e w ⟨A5, c5, rfl, h⟩)
          | (go_at_call 74; refine (rd_end h).mono ?_; rw [E6.out]; rintro e w ⟨rfl, rfl⟩))
        rw [Exit.noGoto_ret]
        go_ret2
        rw [Hso.out]
        have h6 : St S w0 w (eOwn 87 100 none 0 0 [] :: L) := (h.nilRow 87 100).to
        exact ⟨none, 0, rfl, h6⟩
      · have f2 : ((m : Int) == 0) = false := by simp; omega
        have hs0 : (s'.getD []).length ≠ 0 := by omega
        obtain ⟨b, s2, i1⟩ : ∃ b s2, idT s' = (b, s2) := ⟨_, _, rfl⟩
        obtain ⟨t, s3, i2⟩ : ∃ t s3, textT 64 s2 = (t, s3) := ⟨_, _, rfl⟩
        obtain ⟨q, s4, i3⟩ : ∃ q s4, numT 4 s3 = (q, s4) := ⟨_, _, rfl⟩
        obtain ⟨id, s5, i4⟩ : ∃ id s5, idT s4 = (id, s5) := ⟨_, _, rfl⟩
        obtain ⟨ky, s6, i5⟩ : ∃ ky s6, idT s5 = (ky, s6) := ⟨_, _, rfl⟩
        obtain ⟨r, s7, i6⟩ : ∃ r s7, numT 4294967295 s6 = (r, s7) := ⟨_, _, rfl⟩
        obtain ⟨u, s8, i7⟩ : ∃ u s8, numT 4294967295 s7 = (u, s8) := ⟨_, _, rfl⟩
        have he := entT_eq i1 i2 i3 i4 i5 i6 i7
        have b2 := textT_le 64 s2
        have b3 := numT_le 4 s3
        have b6 := numT_le 4294967295 s6
        have b7 := numT_le 4294967295 s7
        rw [i2] at b2
        rw [i3] at b3
        rw [i6] at b6
        rw [i7] at b7
        simp only at b2 b3 b6 b7
        have Hgo3 := Lib.hid (goesC_step Hgo2.out hs0 he)
        have hB := entT_ok s'
        rw [he] at hB
        have Hacc2 : Hid (∀ e ∈ acc ++ [(⟨b, t, (q : Int), id, ky, (r : Int), (u : Int)⟩ : En)], EnB e) := Lib.hid fun e h3 => by
          rcases List.mem_append.1 h3 with h4 | h4
          · exact Hacc.out e h4
          · rw [List.mem_singleton.1 h4]; exact hB
        have I1 := Lib.hid i1
        have I2 := Lib.hid i2
        have I3 := Lib.hid i3
        have I4 := Lib.hid i4
        have I5 := Lib.hid i5
        have I6 := Lib.hid i6
        have I7 := Lib.hid i7
        have hw3 : IntKind.i64.wrap (q : Int) = (q : Int) := by rw [IntKind.wrap_i64]; omega
        have hw6 : IntKind.u32.wrap (r : Int) = (r : Int) := wrap_u32d (by omega)
        have hw7 : IntKind.u32.wrap (u : Int) = (u : Int) := wrap_u32d (by omega)
        have hsm : IntKind.u64.wrap (j : Int) = (j : Int) := wrap_u64d (by omega)
        have hsm2 : (k : Int) - 1 = (j : Int) := by omega
        have Hlen := Lib.hid (show (acc ++ [(⟨b, t, (q : Int), id, ky, (r : Int), (u : Int)⟩ : En)]).length = acc.length + 1 by simp)
        have Hflat := Lib.hid (show (acc ++ [(⟨b, t, (q : Int), id, ky, (r : Int), (u : Int)⟩ : En)]).flatMap enK = acc.flatMap enK ++ enK ⟨b, t, (q : Int), id, ky, (r : Int), (u : Int)⟩ by simp)
        have hone := (enK_row ⟨b, t, (q : Int), id, ky, (r : Int), (u : Int)⟩).one
        have hak2 : acc.length + 1 + j ≤ 500 := by omega
        have hjN : j ≤ N := by omega
        have hjk : j < k := by omega
        have r1 : Row (u8s b.1) 32 := Row.u32 b
        have r2 : Row (u8s id.1) 32 := Row.u32 id
        have r3 : Row (u8s ky.1) 32 := Row.u32 ky
        clear hm hm0 hs0 hj i1 i2 i3 i4 i5 i6 i7 he hB Hgo2
        go_wp2_with (first
          | (go_at_call 81; refine (rd_rest h).mono ?_; rw [Hm.out]; rintro e w ⟨rfl, rfl⟩)
          | (have q := I1.out; clear I1; go_at_call 83; refine (did_code (s := s') h).mono ?_; rw [q]; clear h q; rintro e w ⟨rfl, h⟩)
          | (have q := I2.out; clear I2; go_at_call 73; refine (rd_text (most := 64) h (by omega)).mono ?_; rw [q]; clear h q; rintro e w ⟨B1, d1, rfl, h⟩)
          | (have q := I3.out; clear I3; go_at_call 71; refine (rd_n (most := 4) (s := s3) h (by omega)).mono ?_; rw [q]; clear h q; rintro e w ⟨rfl, h⟩)
          | (have q := I4.out; clear I4; go_at_call 83; refine (did_code (s := s4) h).mono ?_; rw [q]; clear h q; rintro e w ⟨rfl, h⟩)
          | (have q := I5.out; clear I5; go_at_call 83; refine (did_code (s := s5) h).mono ?_; rw [q]; clear h q; rintro e w ⟨rfl, h⟩)
          | (have q := I6.out; clear I6; go_at_call 71; refine (rd_n (most := 4294967295) (s := s6) h (by omega)).mono ?_; rw [q]; clear h q; rintro e w ⟨rfl, h⟩)
          | (have q := I7.out; clear I7; go_at_call 71; refine (rd_n (most := 4294967295) (s := s7) h (by omega)).mono ?_; rw [q]; clear h q; rintro e w ⟨rfl, h⟩)
          | (refine wl_at 26 rfl ?_; refine wl_reads rfl (ex_string _ _ _ rfl Try.underlying5 Try.underlying9 B1 t.length d1 rfl (h.sl B1 t.length d1)) ?_)
          | (refine wl_at 23 rfl ?_; refine wl_reads rfl (ex_lit _ _ rfl [(0, .agg (u8s b.1).toArray)] rfl) ?_)
          | (refine wl_at 7 rfl ?_; refine wl_runs rfl (ex_alloc h 87 rfl) ?_; clear h; rintro _ w ⟨g7, rfl, h⟩)
          | (refine wl_at 48 rfl ?_; refine wl_runs rfl (ex_slice1 h _ _ rfl (enK ⟨b, t, (q : Int), id, ky, (r : Int), (u : Int)⟩) rfl) ?_; clear h; rintro _ w ⟨gq, rfl, h⟩)
          | (refine wl_at 49 rfl ?_; refine wl_runs rfl (ex_append h _ _ _ rfl A1 rfl (some ⟨gq, 0, none⟩) 1 1 rfl (h.slBox gq) hone (by simp [maxLen]; omega) (by omega)) ?_; clear h; rintro _ w ⟨A2, c2, rfl, h⟩)
          | (refine wl_at 47 rfl ?_; refine wl_reads rfl (ex_loadv h _ _ rfl _ _ rfl) ?_)
          | (refine wl_none rfl ?_; refine wl_runs rfl (ex_store1t h _ _ _ rfl _ _ rfl _ rfl) ?_; clear h; rintro _ w ⟨rfl, h⟩; try dsimp only [Act.put])
          | (refine wl_none rfl ?_; refine wl_runs rfl (ex_store1i h _ _ _ rfl _ _ rfl _ _ rfl) ?_; clear h; rintro _ w ⟨rfl, h⟩; try dsimp only [Act.put])
          | (refine wl_none rfl ?_; refine wl_runs rfl (ex_store h _ _ _ rfl _ _ rfl _ rfl) ?_; clear h; rintro _ w ⟨rfl, h⟩; try dsimp only [Act.put]))
        refine ⟨⟨j, A2, c2, _, _, by rw [Hlen.out], rfl, hjN, by rw [Hlen.out]; exact hak2, Hgo3, Hacc2, by rw [Hflat.out, Hlen.out]; exact h.to⟩, ?_⟩
        simp only [intOf]
        omega
end Go.Proofs.Ytnokgejmlpmgfaa
