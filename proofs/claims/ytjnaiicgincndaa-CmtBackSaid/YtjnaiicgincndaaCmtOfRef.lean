/- The commit that bytes are: the reference. -/
import Derived.Test.YtjnaiicgincndaaCmtOf
import Derived.Test.YtjnaiicgincndaaCmtPutRef
import Derived.Test.YtjnaiicgincndaaRrCode
namespace Go.Proofs.Ytjnaiicgincndaa
open Go.RowKit
set_option linter.unusedVariables false
set_option linter.unusedSimpArgs false

theorem str_eq_selfC (l : List UInt8) : ((str l).toList == (str l).toList) = true := by simp
set_option maxRecDepth 100000 in
set_option maxHeartbeats 4000000 in
theorem cmt_of_ref {S : Nat → Prop} {w0 w : World} {L F : List Ent} {A : Option Addr} {n c : Nat} {l : List UInt8} (h : St S w0 w L) [ka : Slot L (eSl A n c 1 (u8s l)) F] (hn : n ≤ 100000000) :
    Calls Try.prog 15 #[.slice A n c] w fun e w' => ∃ A' c', e = .returned (.tuple #[.agg (cmtK A' ((cmtOf l).getD cmtZ).pa.length c' ((cmtOf l).getD cmtZ)).toArray, .int .i64 (codeC (cmtOf l) 120)]) ∧ St S w0 w' (eOwn 26 32 A' ((cmtOf l).getD cmtZ).pa.length c' (((cmtOf l).getD cmtZ).pa.flatMap idc) :: L) := by
  replace h := h.perm ka.perm
  obtain ⟨O, hO⟩ : ∃ O, cmtOf l = O := ⟨_, rfl⟩
  rw [hO]
  have HO := Lib.hid hO
  have b1 := idsT_le 2 (some l)
  obtain ⟨I, s1, h1⟩ : ∃ I s1, cs1 l = (I, s1) := ⟨_, _, rfl⟩
  have h1' := h1
  rw [cs1] at h1'
  rw [h1'] at b1
  obtain ⟨x, s2, h2⟩ : ∃ x s2, cs2 l = (x, s2) := ⟨_, _, rfl⟩
  have h2' := h2
  rw [cs2, h1] at h2'
  obtain ⟨y, s3, h3⟩ : ∃ y s3, cs3 l = (y, s3) := ⟨_, _, rfl⟩
  have h3' := h3
  rw [cs3, h2] at h3'
  obtain ⟨q4, s4, h4⟩ : ∃ q4 s4, cs4 l = (q4, s4) := ⟨_, _, rfl⟩
  have h4' := h4
  rw [cs4, h3] at h4'
  have b4 := numT_le 18446744073709551615 s3
  obtain ⟨q5, s5, h5⟩ : ∃ q5 s5, cs5 l = (q5, s5) := ⟨_, _, rfl⟩
  have h5' := h5
  rw [cs5, h4] at h5'
  have b5 := numT_le 4294967295 s4
  obtain ⟨t, s6, h6⟩ : ∃ t s6, cs6 l = (t, s6) := ⟨_, _, rfl⟩
  have h6' := h6
  rw [cs6, h5] at h6'
  have b6 := textT_le 4096 s5
  simp only at h1' h2' h3' h4' h5' h6'
  rw [h4'] at b4
  rw [h5'] at b5
  rw [h6'] at b6
  simp only at b1 b4 b5 b6
  have hT : cmtT l = (⟨I, x, y, (q4 : Nat), (q5 : Nat), t⟩, s6) := by rw [cmtT, h1, h2, h3, h4, h5, h6]
  have hOs : s6 = some [] → mayC ⟨I, x, y, (q4 : Nat), (q5 : Nat), t⟩ = true → O = some ⟨I, x, y, (q4 : Nat), (q5 : Nat), t⟩ := fun e1 e2 => by
    rw [← hO, cmtOf, hT, if_pos ⟨e1, e2⟩]
  have hOn : ¬ (s6 = some [] ∧ mayC ⟨I, x, y, (q4 : Nat), (q5 : Nat), t⟩ = true) → O = none := fun e1 => by
    rw [← hO, cmtOf, hT, if_neg e1]
  have H1 := Lib.hid h1'
  have H2 := Lib.hid h2'
  have H3 := Lib.hid h3'
  have H4 := Lib.hid h4'
  have H5 := Lib.hid h5'
  have H6 := Lib.hid h6'
  have HOs := Lib.hid hOs
  have HOn := Lib.hid hOn
  clear h1 h2 h3 h4 h5 h6 hOs hOn hT hO h1' h2' h3' h4' h5' h6'
  have rx : Row (u8s x.1) 32 := Row.u32 x
  have ry : Row (u8s y.1) 32 := Row.u32 y
  have tr := True.intro
  have Hok : Hid (CmtOk ⟨I, x, y, (q4 : Nat), (q5 : Nat), t⟩) := Lib.hid ⟨Int.natCast_nonneg _, by show ((q4 : Nat) : Int) < _; omega, Int.natCast_nonneg _, by show ((q5 : Nat) : Int) < _; omega⟩
  by_cases hmay : mayC ⟨I, x, y, (q4 : Nat), (q5 : Nat), t⟩ = true
  · by_cases hs6 : s6 = some []
    · have E6 := Lib.hid (show endN s6 = 0 by rw [endN, if_pos hs6])
      have Hso := Lib.hid (HOs.out hs6 hmay)
      have HM := Lib.hid (show coutM ⟨I, x, y, (q4 : Nat), (q5 : Nat), t⟩ = l by rw [coutM, if_pos hmay]; exact (cmtOf_put (HO.out.trans Hso.out)).1.symm)
      have HC := Lib.hid (show coutC ⟨I, x, y, (q4 : Nat), (q5 : Nat), t⟩ = 0 by rw [coutC, if_pos hmay])
      have hss := str_eq_selfC l
      clear hs6 hmay
      go_enter Try.func15, Try.ntmps15
      go_wp2_with (first
        | (refine wl_reads rfl (ex_string _ _ _ rfl Try.underlying5 Try.underlying9 A5 l.length c5 rfl (h.sl A5 l.length c5)) ?_)
        | (refine wl_reads rfl (ex_lit _ _ rfl [(0, .slice A n c)] rfl) ?_) | (refine wl_runs rfl (ex_box h 94 _ rfl _ rfl) ?_; clear h; rintro _ w ⟨g, rfl, h⟩; replace h := h.newRd (l := l) (t := 94) (good := false) g) | (have q := H1.out; clear H1; go_at_call 59; refine (rr_ids (most := 2) h (by omega)).mono ?_; rw [q]; clear h q; rintro e w ⟨A1, c1, rfl, h⟩) | (have q := H2.out; clear H2; go_at_call 60; refine (rr_id (s := s1) h).mono ?_; rw [q]; clear h q; rintro e w ⟨rfl, h⟩) | (have q := H3.out; clear H3; go_at_call 60; refine (rr_id (s := s2) h).mono ?_; rw [q]; clear h q; rintro e w ⟨rfl, h⟩) | (have q := H4.out; clear H4; go_at_call 61; refine (rr_n (most := 18446744073709551615) (s := s3) h (by omega)).mono ?_; rw [q]; clear h q; rintro e w ⟨rfl, h⟩) | (have q := H5.out; clear H5; go_at_call 61; refine (rr_n (most := 4294967295) (s := s4) h (by omega)).mono ?_; rw [q]; clear h q; rintro e w ⟨rfl, h⟩) | (have q := H6.out; clear H6; go_at_call 62; refine (rr_text (most := 4096) h (by omega)).mono ?_; rw [q]; clear h q; rintro e w ⟨B1, d1, rfl, h⟩) | (refine wl_reads rfl (ex_string _ _ _ rfl Try.underlying5 Try.underlying9 B1 t.length d1 rfl (h.sl B1 t.length d1)) ?_) | (go_at_call 63; refine (rr_end h).mono ?_; rw [E6.out]; clear E6; rintro e w ⟨rfl, rfl⟩) | (clear tr; refine wl_runs rfl (ex_alloc h 31 rfl) ?_; clear h; rintro _ w ⟨gr, rfl, h⟩) | (refine wl_runs rfl (ex_alloc h 31 rfl) ?_; clear h; rintro _ w ⟨ge, rfl, h⟩) | (refine wl_reads rfl (ex_lit _ _ rfl [(0, .slice A1 I.length c1)] rfl) ?_) | (go_at_call 19; have hc := cput_ref (m := ⟨I, x, y, (q4 : Nat), (q5 : Nat), t⟩) (A := A1) (c := c1) h (by show I.length ≤ _; omega) (by show t.length ≤ _; omega) Hok.out; rw [HM.out, HC.out] at hc; refine hc.mono ?_; clear hc h; rintro e w ⟨A5, c5, rfl, h⟩) | (refine wl_reads rfl (ex_string _ _ _ rfl Try.underlying5 Try.underlying9 A5 M.length c5 rfl (h.sl A5 M.length c5)) ?_) | (refine wl_reads rfl (ex_string _ _ _ rfl Try.underlying5 Try.underlying9 A n c rfl (h.sl A n c)) ?_)
        | (refine wl_reads rfl (ex_loadv h _ _ rfl _ _ rfl) ?_) | (refine wl_runs rfl (ex_store1i h _ _ _ rfl _ _ rfl _ _ rfl) ?_; clear h; rintro _ w ⟨rfl, h⟩; try dsimp only [Act.put]) | (refine wl_runs rfl (ex_store1s h _ _ _ rfl _ _ rfl _ _ _ rfl) ?_; clear h; rintro _ w ⟨rfl, h⟩; try dsimp only [Act.put]) | (refine wl_runs rfl (ex_store1b h _ _ _ rfl _ _ rfl _ rfl) ?_; clear h; rintro _ w ⟨rfl, h⟩; try dsimp only [Act.put]) | (refine wl_runs rfl (ex_store1t h _ _ _ rfl _ _ rfl _ rfl) ?_; clear h; rintro _ w ⟨rfl, h⟩; try dsimp only [Act.put]) | (refine wl_runs rfl (ex_store1p h _ _ _ rfl _ _ rfl _ rfl) ?_; clear h; rintro _ w ⟨rfl, h⟩; try dsimp only [Act.put]) | (refine wl_runs rfl (ex_store1m h _ _ _ rfl _ _ rfl _ rfl) ?_; clear h; rintro _ w ⟨rfl, h⟩; try dsimp only [Act.put]) | (refine wl_runs rfl (ex_store h _ _ _ rfl _ _ rfl _ rfl) ?_; clear h; rintro _ w ⟨rfl, h⟩; try dsimp only [Act.put]) | (refine wl_runs rfl (ex_alloc h _ rfl) ?_; clear h; rintro _ w ⟨g, rfl, h⟩) | (refine wl_runs rfl (ex_box h _ _ rfl _ rfl) ?_; clear h; rintro _ w ⟨g, rfl, h⟩) | (refine wl_runs rfl (ex_box1i h _ _ rfl _ _ rfl) ?_; clear h; rintro _ w ⟨g, rfl, h⟩) | (refine wl_runs rfl (ex_box1s h _ _ rfl _ _ _ rfl) ?_; clear h; rintro _ w ⟨g, rfl, h⟩) | (refine wl_runs rfl (ex_box1b h _ _ rfl _ rfl) ?_; clear h; rintro _ w ⟨g, rfl, h⟩) | (refine wl_runs rfl (ex_box1t h _ _ rfl _ rfl) ?_; clear h; rintro _ w ⟨g, rfl, h⟩) | (refine wl_runs rfl (ex_box1p h _ _ rfl _ rfl) ?_; clear h; rintro _ w ⟨g, rfl, h⟩) | (refine wl_runs rfl (ex_box1m h _ _ rfl _ rfl) ?_; clear h; rintro _ w ⟨g, rfl, h⟩) | (refine wl_runs rfl (ex_slice1 h _ _ rfl _ rfl) ?_; clear h; rintro _ w ⟨g, rfl, h⟩) | (refine wl_runs rfl (ex_slice1i h _ _ rfl _ _ rfl) ?_; clear h; rintro _ w ⟨g, rfl, h⟩) | (refine wl_runs rfl (ex_slice1s h _ _ rfl _ _ _ rfl) ?_; clear h; rintro _ w ⟨g, rfl, h⟩) | (refine wl_runs rfl (ex_slice1b h _ _ rfl _ rfl) ?_; clear h; rintro _ w ⟨g, rfl, h⟩) | (refine wl_runs rfl (ex_slice1t h _ _ rfl _ rfl) ?_; clear h; rintro _ w ⟨g, rfl, h⟩) | (refine wl_runs rfl (ex_slice1p h _ _ rfl _ rfl) ?_; clear h; rintro _ w ⟨g, rfl, h⟩) | (refine wl_runs rfl (ex_slice1m h _ _ rfl _ rfl) ?_; clear h; rintro _ w ⟨g, rfl, h⟩) | (refine wl_reads rfl (ex_lit0 _ rfl) ?_))
      refine bodyPost_ret (res_cell_tmp rfl rfl rfl (h.loadVar 31 gr 0)) rfl ?_
      rw [Hso.out]
      have h8 : St S w0 w (eOwn 26 32 A1 I.length c1 (I.flatMap idc) :: eSl A n c 1 (u8s l) :: F) := h.to
      exact ⟨A1, c1, rfl, h8.perm ((ka.perm.symm).cons _)⟩
    · have E6 := Lib.hid (show endN s6 = 80 by rw [endN, if_neg hs6])
      have Hno := Lib.hid (HOn.out (fun h => hs6 h.1))
      obtain ⟨M, hM⟩ : ∃ M, coutM ⟨I, x, y, (q4 : Nat), (q5 : Nat), t⟩ = M := ⟨_, rfl⟩
      have HM := Lib.hid hM
      have HC := Lib.hid (show coutC ⟨I, x, y, (q4 : Nat), (q5 : Nat), t⟩ = 0 by rw [coutC, if_pos hmay])
      clear hs6 hmay hM
      go_enter Try.func15, Try.ntmps15
      go_wp2_with (first
        | (refine wl_reads rfl (ex_lit _ _ rfl [(0, .slice A n c)] rfl) ?_) | (refine wl_runs rfl (ex_box h 94 _ rfl _ rfl) ?_; clear h; rintro _ w ⟨g, rfl, h⟩; replace h := h.newRd (l := l) (t := 94) (good := false) g) | (have q := H1.out; clear H1; go_at_call 59; refine (rr_ids (most := 2) h (by omega)).mono ?_; rw [q]; clear h q; rintro e w ⟨A1, c1, rfl, h⟩) | (have q := H2.out; clear H2; go_at_call 60; refine (rr_id (s := s1) h).mono ?_; rw [q]; clear h q; rintro e w ⟨rfl, h⟩) | (have q := H3.out; clear H3; go_at_call 60; refine (rr_id (s := s2) h).mono ?_; rw [q]; clear h q; rintro e w ⟨rfl, h⟩) | (have q := H4.out; clear H4; go_at_call 61; refine (rr_n (most := 18446744073709551615) (s := s3) h (by omega)).mono ?_; rw [q]; clear h q; rintro e w ⟨rfl, h⟩) | (have q := H5.out; clear H5; go_at_call 61; refine (rr_n (most := 4294967295) (s := s4) h (by omega)).mono ?_; rw [q]; clear h q; rintro e w ⟨rfl, h⟩) | (have q := H6.out; clear H6; go_at_call 62; refine (rr_text (most := 4096) h (by omega)).mono ?_; rw [q]; clear h q; rintro e w ⟨B1, d1, rfl, h⟩) | (refine wl_reads rfl (ex_string _ _ _ rfl Try.underlying5 Try.underlying9 B1 t.length d1 rfl (h.sl B1 t.length d1)) ?_) | (go_at_call 63; refine (rr_end h).mono ?_; rw [E6.out]; clear E6; rintro e w ⟨rfl, rfl⟩) | (clear tr; refine wl_runs rfl (ex_alloc h 31 rfl) ?_; clear h; rintro _ w ⟨gr, rfl, h⟩) | (refine wl_runs rfl (ex_alloc h 31 rfl) ?_; clear h; rintro _ w ⟨ge, rfl, h⟩) | (refine wl_reads rfl (ex_lit _ _ rfl [(0, .slice A1 I.length c1)] rfl) ?_) | (go_at_call 19; have hc := cput_ref (m := ⟨I, x, y, (q4 : Nat), (q5 : Nat), t⟩) (A := A1) (c := c1) h (by show I.length ≤ _; omega) (by show t.length ≤ _; omega) Hok.out; rw [HM.out, HC.out] at hc; refine hc.mono ?_; clear hc h; rintro e w ⟨A5, c5, rfl, h⟩) | (refine wl_reads rfl (ex_string _ _ _ rfl Try.underlying5 Try.underlying9 A5 M.length c5 rfl (h.sl A5 M.length c5)) ?_) | (refine wl_reads rfl (ex_string _ _ _ rfl Try.underlying5 Try.underlying9 A n c rfl (h.sl A n c)) ?_)
        | (refine wl_reads rfl (ex_loadv h _ _ rfl _ _ rfl) ?_) | (refine wl_runs rfl (ex_store1i h _ _ _ rfl _ _ rfl _ _ rfl) ?_; clear h; rintro _ w ⟨rfl, h⟩; try dsimp only [Act.put]) | (refine wl_runs rfl (ex_store1s h _ _ _ rfl _ _ rfl _ _ _ rfl) ?_; clear h; rintro _ w ⟨rfl, h⟩; try dsimp only [Act.put]) | (refine wl_runs rfl (ex_store1b h _ _ _ rfl _ _ rfl _ rfl) ?_; clear h; rintro _ w ⟨rfl, h⟩; try dsimp only [Act.put]) | (refine wl_runs rfl (ex_store1t h _ _ _ rfl _ _ rfl _ rfl) ?_; clear h; rintro _ w ⟨rfl, h⟩; try dsimp only [Act.put]) | (refine wl_runs rfl (ex_store1p h _ _ _ rfl _ _ rfl _ rfl) ?_; clear h; rintro _ w ⟨rfl, h⟩; try dsimp only [Act.put]) | (refine wl_runs rfl (ex_store1m h _ _ _ rfl _ _ rfl _ rfl) ?_; clear h; rintro _ w ⟨rfl, h⟩; try dsimp only [Act.put]) | (refine wl_runs rfl (ex_store h _ _ _ rfl _ _ rfl _ rfl) ?_; clear h; rintro _ w ⟨rfl, h⟩; try dsimp only [Act.put]) | (refine wl_runs rfl (ex_alloc h _ rfl) ?_; clear h; rintro _ w ⟨g, rfl, h⟩) | (refine wl_runs rfl (ex_box h _ _ rfl _ rfl) ?_; clear h; rintro _ w ⟨g, rfl, h⟩) | (refine wl_runs rfl (ex_box1i h _ _ rfl _ _ rfl) ?_; clear h; rintro _ w ⟨g, rfl, h⟩) | (refine wl_runs rfl (ex_box1s h _ _ rfl _ _ _ rfl) ?_; clear h; rintro _ w ⟨g, rfl, h⟩) | (refine wl_runs rfl (ex_box1b h _ _ rfl _ rfl) ?_; clear h; rintro _ w ⟨g, rfl, h⟩) | (refine wl_runs rfl (ex_box1t h _ _ rfl _ rfl) ?_; clear h; rintro _ w ⟨g, rfl, h⟩) | (refine wl_runs rfl (ex_box1p h _ _ rfl _ rfl) ?_; clear h; rintro _ w ⟨g, rfl, h⟩) | (refine wl_runs rfl (ex_box1m h _ _ rfl _ rfl) ?_; clear h; rintro _ w ⟨g, rfl, h⟩) | (refine wl_runs rfl (ex_slice1 h _ _ rfl _ rfl) ?_; clear h; rintro _ w ⟨g, rfl, h⟩) | (refine wl_runs rfl (ex_slice1i h _ _ rfl _ _ rfl) ?_; clear h; rintro _ w ⟨g, rfl, h⟩) | (refine wl_runs rfl (ex_slice1s h _ _ rfl _ _ _ rfl) ?_; clear h; rintro _ w ⟨g, rfl, h⟩) | (refine wl_runs rfl (ex_slice1b h _ _ rfl _ rfl) ?_; clear h; rintro _ w ⟨g, rfl, h⟩) | (refine wl_runs rfl (ex_slice1t h _ _ rfl _ rfl) ?_; clear h; rintro _ w ⟨g, rfl, h⟩) | (refine wl_runs rfl (ex_slice1p h _ _ rfl _ rfl) ?_; clear h; rintro _ w ⟨g, rfl, h⟩) | (refine wl_runs rfl (ex_slice1m h _ _ rfl _ rfl) ?_; clear h; rintro _ w ⟨g, rfl, h⟩) | (refine wl_reads rfl (ex_lit0 _ rfl) ?_))
      refine bodyPost_ret (res_cell_tmp rfl rfl rfl (h.loadVar 31 gr 0)) rfl ?_
      rw [Hno.out]
      have h8 : St S w0 w (eOwn 26 32 none 0 0 [] :: eSl A n c 1 (u8s l) :: F) := (h.nilRow 26 32).to
      exact ⟨none, 0, rfl, h8.perm ((ka.perm.symm).cons _)⟩
  · have HC := Lib.hid (show coutC ⟨I, x, y, (q4 : Nat), (q5 : Nat), t⟩ = 120 by rw [coutC, if_neg hmay])
    have Hno := Lib.hid (HOn.out (fun h => hmay h.2))
    obtain ⟨M, hM⟩ : ∃ M, coutM ⟨I, x, y, (q4 : Nat), (q5 : Nat), t⟩ = M := ⟨_, rfl⟩
    have HM := Lib.hid hM
    by_cases hs6 : s6 = some []
    · have E6 := Lib.hid (show endN s6 = 0 by rw [endN, if_pos hs6])
      clear hs6 hmay hM
      go_enter Try.func15, Try.ntmps15
      go_wp2_with (first
        | (refine wl_reads rfl (ex_lit _ _ rfl [(0, .slice A n c)] rfl) ?_) | (refine wl_runs rfl (ex_box h 94 _ rfl _ rfl) ?_; clear h; rintro _ w ⟨g, rfl, h⟩; replace h := h.newRd (l := l) (t := 94) (good := false) g) | (have q := H1.out; clear H1; go_at_call 59; refine (rr_ids (most := 2) h (by omega)).mono ?_; rw [q]; clear h q; rintro e w ⟨A1, c1, rfl, h⟩) | (have q := H2.out; clear H2; go_at_call 60; refine (rr_id (s := s1) h).mono ?_; rw [q]; clear h q; rintro e w ⟨rfl, h⟩) | (have q := H3.out; clear H3; go_at_call 60; refine (rr_id (s := s2) h).mono ?_; rw [q]; clear h q; rintro e w ⟨rfl, h⟩) | (have q := H4.out; clear H4; go_at_call 61; refine (rr_n (most := 18446744073709551615) (s := s3) h (by omega)).mono ?_; rw [q]; clear h q; rintro e w ⟨rfl, h⟩) | (have q := H5.out; clear H5; go_at_call 61; refine (rr_n (most := 4294967295) (s := s4) h (by omega)).mono ?_; rw [q]; clear h q; rintro e w ⟨rfl, h⟩) | (have q := H6.out; clear H6; go_at_call 62; refine (rr_text (most := 4096) h (by omega)).mono ?_; rw [q]; clear h q; rintro e w ⟨B1, d1, rfl, h⟩) | (refine wl_reads rfl (ex_string _ _ _ rfl Try.underlying5 Try.underlying9 B1 t.length d1 rfl (h.sl B1 t.length d1)) ?_) | (go_at_call 63; refine (rr_end h).mono ?_; rw [E6.out]; clear E6; rintro e w ⟨rfl, rfl⟩) | (clear tr; refine wl_runs rfl (ex_alloc h 31 rfl) ?_; clear h; rintro _ w ⟨gr, rfl, h⟩) | (refine wl_runs rfl (ex_alloc h 31 rfl) ?_; clear h; rintro _ w ⟨ge, rfl, h⟩) | (refine wl_reads rfl (ex_lit _ _ rfl [(0, .slice A1 I.length c1)] rfl) ?_) | (go_at_call 19; have hc := cput_ref (m := ⟨I, x, y, (q4 : Nat), (q5 : Nat), t⟩) (A := A1) (c := c1) h (by show I.length ≤ _; omega) (by show t.length ≤ _; omega) Hok.out; rw [HM.out, HC.out] at hc; refine hc.mono ?_; clear hc h; rintro e w ⟨A5, c5, rfl, h⟩) | (refine wl_reads rfl (ex_string _ _ _ rfl Try.underlying5 Try.underlying9 A5 M.length c5 rfl (h.sl A5 M.length c5)) ?_) | (refine wl_reads rfl (ex_string _ _ _ rfl Try.underlying5 Try.underlying9 A n c rfl (h.sl A n c)) ?_)
        | (refine wl_reads rfl (ex_loadv h _ _ rfl _ _ rfl) ?_) | (refine wl_runs rfl (ex_store1i h _ _ _ rfl _ _ rfl _ _ rfl) ?_; clear h; rintro _ w ⟨rfl, h⟩; try dsimp only [Act.put]) | (refine wl_runs rfl (ex_store1s h _ _ _ rfl _ _ rfl _ _ _ rfl) ?_; clear h; rintro _ w ⟨rfl, h⟩; try dsimp only [Act.put]) | (refine wl_runs rfl (ex_store1b h _ _ _ rfl _ _ rfl _ rfl) ?_; clear h; rintro _ w ⟨rfl, h⟩; try dsimp only [Act.put]) | (refine wl_runs rfl (ex_store1t h _ _ _ rfl _ _ rfl _ rfl) ?_; clear h; rintro _ w ⟨rfl, h⟩; try dsimp only [Act.put]) | (refine wl_runs rfl (ex_store1p h _ _ _ rfl _ _ rfl _ rfl) ?_; clear h; rintro _ w ⟨rfl, h⟩; try dsimp only [Act.put]) | (refine wl_runs rfl (ex_store1m h _ _ _ rfl _ _ rfl _ rfl) ?_; clear h; rintro _ w ⟨rfl, h⟩; try dsimp only [Act.put]) | (refine wl_runs rfl (ex_store h _ _ _ rfl _ _ rfl _ rfl) ?_; clear h; rintro _ w ⟨rfl, h⟩; try dsimp only [Act.put]) | (refine wl_runs rfl (ex_alloc h _ rfl) ?_; clear h; rintro _ w ⟨g, rfl, h⟩) | (refine wl_runs rfl (ex_box h _ _ rfl _ rfl) ?_; clear h; rintro _ w ⟨g, rfl, h⟩) | (refine wl_runs rfl (ex_box1i h _ _ rfl _ _ rfl) ?_; clear h; rintro _ w ⟨g, rfl, h⟩) | (refine wl_runs rfl (ex_box1s h _ _ rfl _ _ _ rfl) ?_; clear h; rintro _ w ⟨g, rfl, h⟩) | (refine wl_runs rfl (ex_box1b h _ _ rfl _ rfl) ?_; clear h; rintro _ w ⟨g, rfl, h⟩) | (refine wl_runs rfl (ex_box1t h _ _ rfl _ rfl) ?_; clear h; rintro _ w ⟨g, rfl, h⟩) | (refine wl_runs rfl (ex_box1p h _ _ rfl _ rfl) ?_; clear h; rintro _ w ⟨g, rfl, h⟩) | (refine wl_runs rfl (ex_box1m h _ _ rfl _ rfl) ?_; clear h; rintro _ w ⟨g, rfl, h⟩) | (refine wl_runs rfl (ex_slice1 h _ _ rfl _ rfl) ?_; clear h; rintro _ w ⟨g, rfl, h⟩) | (refine wl_runs rfl (ex_slice1i h _ _ rfl _ _ rfl) ?_; clear h; rintro _ w ⟨g, rfl, h⟩) | (refine wl_runs rfl (ex_slice1s h _ _ rfl _ _ _ rfl) ?_; clear h; rintro _ w ⟨g, rfl, h⟩) | (refine wl_runs rfl (ex_slice1b h _ _ rfl _ rfl) ?_; clear h; rintro _ w ⟨g, rfl, h⟩) | (refine wl_runs rfl (ex_slice1t h _ _ rfl _ rfl) ?_; clear h; rintro _ w ⟨g, rfl, h⟩) | (refine wl_runs rfl (ex_slice1p h _ _ rfl _ rfl) ?_; clear h; rintro _ w ⟨g, rfl, h⟩) | (refine wl_runs rfl (ex_slice1m h _ _ rfl _ rfl) ?_; clear h; rintro _ w ⟨g, rfl, h⟩) | (refine wl_reads rfl (ex_lit0 _ rfl) ?_))
      refine bodyPost_ret (res_cell_tmp rfl rfl rfl (h.loadVar 31 gr 0)) rfl ?_
      rw [Hno.out]
      have h8 : St S w0 w (eOwn 26 32 none 0 0 [] :: eSl A n c 1 (u8s l) :: F) := (h.nilRow 26 32).to
      exact ⟨none, 0, rfl, h8.perm ((ka.perm.symm).cons _)⟩
    · have E6 := Lib.hid (show endN s6 = 80 by rw [endN, if_neg hs6])
      clear hs6 hmay hM
      go_enter Try.func15, Try.ntmps15
      go_wp2_with (first
        | (refine wl_reads rfl (ex_lit _ _ rfl [(0, .slice A n c)] rfl) ?_) | (refine wl_runs rfl (ex_box h 94 _ rfl _ rfl) ?_; clear h; rintro _ w ⟨g, rfl, h⟩; replace h := h.newRd (l := l) (t := 94) (good := false) g) | (have q := H1.out; clear H1; go_at_call 59; refine (rr_ids (most := 2) h (by omega)).mono ?_; rw [q]; clear h q; rintro e w ⟨A1, c1, rfl, h⟩) | (have q := H2.out; clear H2; go_at_call 60; refine (rr_id (s := s1) h).mono ?_; rw [q]; clear h q; rintro e w ⟨rfl, h⟩) | (have q := H3.out; clear H3; go_at_call 60; refine (rr_id (s := s2) h).mono ?_; rw [q]; clear h q; rintro e w ⟨rfl, h⟩) | (have q := H4.out; clear H4; go_at_call 61; refine (rr_n (most := 18446744073709551615) (s := s3) h (by omega)).mono ?_; rw [q]; clear h q; rintro e w ⟨rfl, h⟩) | (have q := H5.out; clear H5; go_at_call 61; refine (rr_n (most := 4294967295) (s := s4) h (by omega)).mono ?_; rw [q]; clear h q; rintro e w ⟨rfl, h⟩) | (have q := H6.out; clear H6; go_at_call 62; refine (rr_text (most := 4096) h (by omega)).mono ?_; rw [q]; clear h q; rintro e w ⟨B1, d1, rfl, h⟩) | (refine wl_reads rfl (ex_string _ _ _ rfl Try.underlying5 Try.underlying9 B1 t.length d1 rfl (h.sl B1 t.length d1)) ?_) | (go_at_call 63; refine (rr_end h).mono ?_; rw [E6.out]; clear E6; rintro e w ⟨rfl, rfl⟩) | (clear tr; refine wl_runs rfl (ex_alloc h 31 rfl) ?_; clear h; rintro _ w ⟨gr, rfl, h⟩) | (refine wl_runs rfl (ex_alloc h 31 rfl) ?_; clear h; rintro _ w ⟨ge, rfl, h⟩) | (refine wl_reads rfl (ex_lit _ _ rfl [(0, .slice A1 I.length c1)] rfl) ?_) | (go_at_call 19; have hc := cput_ref (m := ⟨I, x, y, (q4 : Nat), (q5 : Nat), t⟩) (A := A1) (c := c1) h (by show I.length ≤ _; omega) (by show t.length ≤ _; omega) Hok.out; rw [HM.out, HC.out] at hc; refine hc.mono ?_; clear hc h; rintro e w ⟨A5, c5, rfl, h⟩) | (refine wl_reads rfl (ex_string _ _ _ rfl Try.underlying5 Try.underlying9 A5 M.length c5 rfl (h.sl A5 M.length c5)) ?_) | (refine wl_reads rfl (ex_string _ _ _ rfl Try.underlying5 Try.underlying9 A n c rfl (h.sl A n c)) ?_)
        | (refine wl_reads rfl (ex_loadv h _ _ rfl _ _ rfl) ?_) | (refine wl_runs rfl (ex_store1i h _ _ _ rfl _ _ rfl _ _ rfl) ?_; clear h; rintro _ w ⟨rfl, h⟩; try dsimp only [Act.put]) | (refine wl_runs rfl (ex_store1s h _ _ _ rfl _ _ rfl _ _ _ rfl) ?_; clear h; rintro _ w ⟨rfl, h⟩; try dsimp only [Act.put]) | (refine wl_runs rfl (ex_store1b h _ _ _ rfl _ _ rfl _ rfl) ?_; clear h; rintro _ w ⟨rfl, h⟩; try dsimp only [Act.put]) | (refine wl_runs rfl (ex_store1t h _ _ _ rfl _ _ rfl _ rfl) ?_; clear h; rintro _ w ⟨rfl, h⟩; try dsimp only [Act.put]) | (refine wl_runs rfl (ex_store1p h _ _ _ rfl _ _ rfl _ rfl) ?_; clear h; rintro _ w ⟨rfl, h⟩; try dsimp only [Act.put]) | (refine wl_runs rfl (ex_store1m h _ _ _ rfl _ _ rfl _ rfl) ?_; clear h; rintro _ w ⟨rfl, h⟩; try dsimp only [Act.put]) | (refine wl_runs rfl (ex_store h _ _ _ rfl _ _ rfl _ rfl) ?_; clear h; rintro _ w ⟨rfl, h⟩; try dsimp only [Act.put]) | (refine wl_runs rfl (ex_alloc h _ rfl) ?_; clear h; rintro _ w ⟨g, rfl, h⟩) | (refine wl_runs rfl (ex_box h _ _ rfl _ rfl) ?_; clear h; rintro _ w ⟨g, rfl, h⟩) | (refine wl_runs rfl (ex_box1i h _ _ rfl _ _ rfl) ?_; clear h; rintro _ w ⟨g, rfl, h⟩) | (refine wl_runs rfl (ex_box1s h _ _ rfl _ _ _ rfl) ?_; clear h; rintro _ w ⟨g, rfl, h⟩) | (refine wl_runs rfl (ex_box1b h _ _ rfl _ rfl) ?_; clear h; rintro _ w ⟨g, rfl, h⟩) | (refine wl_runs rfl (ex_box1t h _ _ rfl _ rfl) ?_; clear h; rintro _ w ⟨g, rfl, h⟩) | (refine wl_runs rfl (ex_box1p h _ _ rfl _ rfl) ?_; clear h; rintro _ w ⟨g, rfl, h⟩) | (refine wl_runs rfl (ex_box1m h _ _ rfl _ rfl) ?_; clear h; rintro _ w ⟨g, rfl, h⟩) | (refine wl_runs rfl (ex_slice1 h _ _ rfl _ rfl) ?_; clear h; rintro _ w ⟨g, rfl, h⟩) | (refine wl_runs rfl (ex_slice1i h _ _ rfl _ _ rfl) ?_; clear h; rintro _ w ⟨g, rfl, h⟩) | (refine wl_runs rfl (ex_slice1s h _ _ rfl _ _ _ rfl) ?_; clear h; rintro _ w ⟨g, rfl, h⟩) | (refine wl_runs rfl (ex_slice1b h _ _ rfl _ rfl) ?_; clear h; rintro _ w ⟨g, rfl, h⟩) | (refine wl_runs rfl (ex_slice1t h _ _ rfl _ rfl) ?_; clear h; rintro _ w ⟨g, rfl, h⟩) | (refine wl_runs rfl (ex_slice1p h _ _ rfl _ rfl) ?_; clear h; rintro _ w ⟨g, rfl, h⟩) | (refine wl_runs rfl (ex_slice1m h _ _ rfl _ rfl) ?_; clear h; rintro _ w ⟨g, rfl, h⟩) | (refine wl_reads rfl (ex_lit0 _ rfl) ?_))
      refine bodyPost_ret (res_cell_tmp rfl rfl rfl (h.loadVar 31 gr 0)) rfl ?_
      rw [Hno.out]
      have h8 : St S w0 w (eOwn 26 32 none 0 0 [] :: eSl A n c 1 (u8s l) :: F) := (h.nilRow 26 32).to
      exact ⟨none, 0, rfl, h8.perm ((ka.perm.symm).cons _)⟩
end Go.Proofs.Ytjnaiicgincndaa
