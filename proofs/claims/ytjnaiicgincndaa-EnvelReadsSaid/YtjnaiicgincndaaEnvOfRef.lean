/- The envelope that bytes are: the reference. -/
import Derived.Test.YtjnaiicgincndaaEnvOf
import Derived.Test.YtjnaiicgincndaaRefPut
namespace Go.Proofs.Ytjnaiicgincndaa
open Go.RowKit
set_option linter.unusedVariables false
set_option linter.unusedSimpArgs false


set_option maxRecDepth 100000 in
set_option maxHeartbeats 2000000 in
theorem env_of_ref {S : Nat → Prop} {w0 w : World} {L F : List Ent} {A : Option Addr} {n c : Nat} {l : List UInt8} (h : St S w0 w L) [ka : Slot L (eSl A n c 1 (u8s l)) F] (hn : n ≤ 100000000) :
    Calls Try.prog 25 #[.slice A n c] w fun e w' => ∃ A' c' B' d', e = .returned (.tuple #[envV ((envOf l).getD envZ) A' c' B' d', .int .i64 (codeM (envOf l) 90)]) ∧ St S w0 w' (eOwn 26 32 A' ((envOf l).getD envZ).links.length c' (((envOf l).getD envZ).links.flatMap idc) :: eSl B' ((envOf l).getD envZ).body.length d' 1 (u8s ((envOf l).getD envZ).body) :: L) := by
  replace h := h.perm ka.perm
  obtain ⟨O, hO⟩ : ∃ O, envOf l = O := ⟨_, rfl⟩
  rw [hO]
  have HO := Lib.hid hO
  have b1 := numT_le 3 (some l)
  obtain ⟨k, s1, h1⟩ : ∃ k s1, numT 3 (some l) = (k, s1) := ⟨_, _, rfl⟩
  rw [h1] at b1
  have b2 := numT_le 4294967295 s1
  obtain ⟨r, s2, h2⟩ : ∃ r s2, numT 4294967295 s1 = (r, s2) := ⟨_, _, rfl⟩
  rw [h2] at b2
  have b3 := numT_le 4294967295 s2
  obtain ⟨p, s3, h3⟩ : ∃ p s3, numT 4294967295 s2 = (p, s3) := ⟨_, _, rfl⟩
  rw [h3] at b3
  have b4 := idsT_le 1000 s3
  obtain ⟨I, s4, h4⟩ : ∃ I s4, idsT 1000 s3 = (I, s4) := ⟨_, _, rfl⟩
  rw [h4] at b4
  obtain ⟨t, s5, h5⟩ : ∃ t s5, textT 70000 s4 = (t, s5) := ⟨_, _, rfl⟩
  simp only at b1 b2 b3 b4
  have hT : envT (some l) = (⟨(k : Nat), r, p, I, t⟩, s5) := by unfold envT; rw [h1, h2, h3, h4, h5]
  have hOs : s5 = some [] → mayM ⟨(k : Nat), r, p, I, t⟩ = true → O = some ⟨(k : Nat), r, p, I, t⟩ := fun e1 e2 => by
    rw [← hO, envOf, hT, if_pos ⟨e1, e2⟩]
  have hOn : ¬ (s5 = some [] ∧ mayM ⟨(k : Nat), r, p, I, t⟩ = true) → O = none := fun e1 => by
    rw [← hO, envOf, hT, if_neg e1]
  have H1 := Lib.hid h1
  have H2 := Lib.hid h2
  have H3 := Lib.hid h3
  have H4 := Lib.hid h4
  have H5 := Lib.hid h5
  have HOs := Lib.hid hOs
  have HOn := Lib.hid hOn
  clear h1 h2 h3 h4 h5 hOs hOn hT hO
  have tr := True.intro
  have hI : ∀ (W : World) (A1 B1 : Option Addr) (c1 d1 : Nat), Sl W A1 I.length c1 32 (I.flatMap idc) → Sl W B1 t.length d1 1 (u8s t) → EnvIs W ⟨(k : Nat), r, p, I, t⟩ A1 I.length c1 B1 t.length d1 := fun W A1 B1 c1 d1 x y => ⟨x, y, by (have : k = 0 ∨ k = 1 ∨ k = 2 ∨ k = 3 := by omega); rcases this with rfl | rfl | rfl | rfl <;> rfl, by show r < 2 ^ 32; omega, by show p < 2 ^ 32; omega⟩
  have HI := Lib.hid hI
  have htl : t.length ≤ 70000 := by
    have := textT_le 70000 s4
    rw [H5.out] at this
    exact this
  by_cases hmay : mayM ⟨(k : Nat), r, p, I, t⟩ = true
  · have Hm := Lib.hid hmay
    by_cases hs5 : s5 = some []
    · have E5 := Lib.hid (show endN s5 = 0 by rw [endN, if_pos hs5])
      have Hso := Lib.hid (HOs.out hs5 hmay)
      have hl := (envOf_put (l := l) (HO.out.trans Hso.out)).1
      have Hl := Lib.hid hl
      have hss := str_eq_self l
      clear hs5 hI hmay hl
      go_enter Try.func25, Try.ntmps25
      go_wp2_with (first
        | (refine wl_reads rfl (ex_lit _ _ rfl [(0, .slice A n c)] rfl) ?_) | (refine wl_runs rfl (ex_box h 94 _ rfl _ rfl) ?_; clear h; rintro _ w ⟨g, rfl, h⟩; replace h := h.newRd (l := l) (t := 94) (good := false) g) | (have q := H1.out; clear H1; go_at_call 61; refine (rr_n (most := 3) h (by omega)).mono ?_; rw [q]; clear h q; rintro e w ⟨rfl, h⟩) | (have q := H2.out; clear H2; go_at_call 61; refine (rr_n (most := 4294967295) (s := s1) h (by omega)).mono ?_; rw [q]; clear h q; rintro e w ⟨rfl, h⟩) | (have q := H3.out; clear H3; go_at_call 61; refine (rr_n (most := 4294967295) (s := s2) h (by omega)).mono ?_; rw [q]; clear h q; rintro e w ⟨rfl, h⟩) | (have q := H4.out; clear H4; go_at_call 59; refine (rr_ids (most := 1000) h (by omega)).mono ?_; rw [q]; clear h q; rintro e w ⟨A1, c1, rfl, h⟩) | (have q := H5.out; clear H5; go_at_call 62; refine (rr_text (most := 70000) h (by omega)).mono ?_; rw [q]; clear h q; rintro e w ⟨B1, d1, rfl, h⟩) | (go_at_call 63; refine (rr_end h).mono ?_; rw [E5.out]; clear E5; rintro e w ⟨rfl, rfl⟩) | (clear tr; refine wl_runs rfl (ex_alloc h 48 rfl) ?_; clear h; rintro _ w ⟨gr, rfl, h⟩) | (refine wl_runs rfl (ex_alloc h 48 rfl) ?_; clear h; rintro _ w ⟨ge, rfl, h⟩) | (refine wl_reads rfl (ex_lit _ _ rfl [(0, .int .i64 (k : Int))] rfl) ?_)
        | (go_at_call 74; unfold c_api_Envelope; have hc := put_ref (HI.out _ A1 B1 c1 d1 (h.sl A1 I.length c1) (h.sl B1 t.length d1)) (by omega) (by omega); rw [Hm.out] at hc; refine hc.mono ?_; clear hc; rintro e w ⟨A2, n2, c2, rfl, hx, hs, _⟩; replace h := h.quiet hs; clear hs; rw [if_pos rfl, ← Hl.out] at hx)
        | (refine wl_reads rfl (ex_string _ _ _ rfl Try.underlying5 Try.underlying9 A2 n2 c2 rfl hx) ?_)
        | (refine wl_reads rfl (ex_string _ _ _ rfl Try.underlying5 Try.underlying9 A n c rfl (h.sl A n c)) ?_)
        | (refine wl_reads rfl (ex_loadv h _ _ rfl _ _ rfl) ?_) | (refine wl_runs rfl (ex_store1i h _ _ _ rfl _ _ rfl _ _ rfl) ?_; clear h; rintro _ w ⟨rfl, h⟩; try dsimp only [Act.put]) | (refine wl_runs rfl (ex_store1s h _ _ _ rfl _ _ rfl _ _ _ rfl) ?_; clear h; rintro _ w ⟨rfl, h⟩; try dsimp only [Act.put]) | (refine wl_runs rfl (ex_store1b h _ _ _ rfl _ _ rfl _ rfl) ?_; clear h; rintro _ w ⟨rfl, h⟩; try dsimp only [Act.put]) | (refine wl_runs rfl (ex_store1t h _ _ _ rfl _ _ rfl _ rfl) ?_; clear h; rintro _ w ⟨rfl, h⟩; try dsimp only [Act.put]) | (refine wl_runs rfl (ex_store1p h _ _ _ rfl _ _ rfl _ rfl) ?_; clear h; rintro _ w ⟨rfl, h⟩; try dsimp only [Act.put]) | (refine wl_runs rfl (ex_store1m h _ _ _ rfl _ _ rfl _ rfl) ?_; clear h; rintro _ w ⟨rfl, h⟩; try dsimp only [Act.put]) | (refine wl_runs rfl (ex_store h _ _ _ rfl _ _ rfl _ rfl) ?_; clear h; rintro _ w ⟨rfl, h⟩; try dsimp only [Act.put]) | (refine wl_runs rfl (ex_alloc h _ rfl) ?_; clear h; rintro _ w ⟨g, rfl, h⟩) | (refine wl_runs rfl (ex_box h _ _ rfl _ rfl) ?_; clear h; rintro _ w ⟨g, rfl, h⟩) | (refine wl_runs rfl (ex_box1i h _ _ rfl _ _ rfl) ?_; clear h; rintro _ w ⟨g, rfl, h⟩) | (refine wl_runs rfl (ex_box1s h _ _ rfl _ _ _ rfl) ?_; clear h; rintro _ w ⟨g, rfl, h⟩) | (refine wl_runs rfl (ex_box1b h _ _ rfl _ rfl) ?_; clear h; rintro _ w ⟨g, rfl, h⟩) | (refine wl_runs rfl (ex_box1t h _ _ rfl _ rfl) ?_; clear h; rintro _ w ⟨g, rfl, h⟩) | (refine wl_runs rfl (ex_box1p h _ _ rfl _ rfl) ?_; clear h; rintro _ w ⟨g, rfl, h⟩) | (refine wl_runs rfl (ex_box1m h _ _ rfl _ rfl) ?_; clear h; rintro _ w ⟨g, rfl, h⟩) | (refine wl_runs rfl (ex_slice1 h _ _ rfl _ rfl) ?_; clear h; rintro _ w ⟨g, rfl, h⟩) | (refine wl_runs rfl (ex_slice1i h _ _ rfl _ _ rfl) ?_; clear h; rintro _ w ⟨g, rfl, h⟩) | (refine wl_runs rfl (ex_slice1s h _ _ rfl _ _ _ rfl) ?_; clear h; rintro _ w ⟨g, rfl, h⟩) | (refine wl_runs rfl (ex_slice1b h _ _ rfl _ rfl) ?_; clear h; rintro _ w ⟨g, rfl, h⟩) | (refine wl_runs rfl (ex_slice1t h _ _ rfl _ rfl) ?_; clear h; rintro _ w ⟨g, rfl, h⟩) | (refine wl_runs rfl (ex_slice1p h _ _ rfl _ rfl) ?_; clear h; rintro _ w ⟨g, rfl, h⟩) | (refine wl_runs rfl (ex_slice1m h _ _ rfl _ rfl) ?_; clear h; rintro _ w ⟨g, rfl, h⟩) | (refine wl_reads rfl (ex_lit0 _ rfl) ?_))
      refine bodyPost_ret (res_cell_tmp rfl rfl rfl (h.loadVar 48 gr 0)) rfl ?_
      rw [Hso.out]
      have h8 : St S w0 w (eOwn 26 32 A1 I.length c1 (I.flatMap idc) :: eSl B1 t.length d1 1 (u8s t) :: eSl A n c 1 (u8s l) :: F) := h.to
      exact ⟨A1, c1, B1, d1, rfl, h8.perm (((ka.perm.symm).cons _).cons _)⟩
    · have E5 := Lib.hid (show endN s5 = 80 by rw [endN, if_neg hs5])
      have Hno := Lib.hid (HOn.out (fun h => hs5 h.1))
      clear hs5 hI hmay
      go_enter Try.func25, Try.ntmps25
      go_wp2_with (first
        | (refine wl_reads rfl (ex_lit _ _ rfl [(0, .slice A n c)] rfl) ?_) | (refine wl_runs rfl (ex_box h 94 _ rfl _ rfl) ?_; clear h; rintro _ w ⟨g, rfl, h⟩; replace h := h.newRd (l := l) (t := 94) (good := false) g) | (have q := H1.out; clear H1; go_at_call 61; refine (rr_n (most := 3) h (by omega)).mono ?_; rw [q]; clear h q; rintro e w ⟨rfl, h⟩) | (have q := H2.out; clear H2; go_at_call 61; refine (rr_n (most := 4294967295) (s := s1) h (by omega)).mono ?_; rw [q]; clear h q; rintro e w ⟨rfl, h⟩) | (have q := H3.out; clear H3; go_at_call 61; refine (rr_n (most := 4294967295) (s := s2) h (by omega)).mono ?_; rw [q]; clear h q; rintro e w ⟨rfl, h⟩) | (have q := H4.out; clear H4; go_at_call 59; refine (rr_ids (most := 1000) h (by omega)).mono ?_; rw [q]; clear h q; rintro e w ⟨A1, c1, rfl, h⟩) | (have q := H5.out; clear H5; go_at_call 62; refine (rr_text (most := 70000) h (by omega)).mono ?_; rw [q]; clear h q; rintro e w ⟨B1, d1, rfl, h⟩) | (go_at_call 63; refine (rr_end h).mono ?_; rw [E5.out]; clear E5; rintro e w ⟨rfl, rfl⟩) | (clear tr; refine wl_runs rfl (ex_alloc h 48 rfl) ?_; clear h; rintro _ w ⟨gr, rfl, h⟩) | (refine wl_runs rfl (ex_alloc h 48 rfl) ?_; clear h; rintro _ w ⟨ge, rfl, h⟩) | (refine wl_reads rfl (ex_lit _ _ rfl [(0, .int .i64 (k : Int))] rfl) ?_)
        | (go_at_call 74; unfold c_api_Envelope; have hc := put_ref (HI.out _ A1 B1 c1 d1 (h.sl A1 I.length c1) (h.sl B1 t.length d1)) (by omega) (by omega); rw [Hm.out] at hc; refine hc.mono ?_; clear hc; rintro e w ⟨A2, n2, c2, rfl, hx, hs, _⟩; replace h := h.quiet hs; clear hs)
        | (refine wl_reads rfl (ex_string _ _ _ rfl Try.underlying5 Try.underlying9 A n c rfl (h.sl A n c)) ?_)
        | (refine wl_reads rfl (ex_loadv h _ _ rfl _ _ rfl) ?_) | (refine wl_runs rfl (ex_store1i h _ _ _ rfl _ _ rfl _ _ rfl) ?_; clear h; rintro _ w ⟨rfl, h⟩; try dsimp only [Act.put]) | (refine wl_runs rfl (ex_store1s h _ _ _ rfl _ _ rfl _ _ _ rfl) ?_; clear h; rintro _ w ⟨rfl, h⟩; try dsimp only [Act.put]) | (refine wl_runs rfl (ex_store1b h _ _ _ rfl _ _ rfl _ rfl) ?_; clear h; rintro _ w ⟨rfl, h⟩; try dsimp only [Act.put]) | (refine wl_runs rfl (ex_store1t h _ _ _ rfl _ _ rfl _ rfl) ?_; clear h; rintro _ w ⟨rfl, h⟩; try dsimp only [Act.put]) | (refine wl_runs rfl (ex_store1p h _ _ _ rfl _ _ rfl _ rfl) ?_; clear h; rintro _ w ⟨rfl, h⟩; try dsimp only [Act.put]) | (refine wl_runs rfl (ex_store1m h _ _ _ rfl _ _ rfl _ rfl) ?_; clear h; rintro _ w ⟨rfl, h⟩; try dsimp only [Act.put]) | (refine wl_runs rfl (ex_store h _ _ _ rfl _ _ rfl _ rfl) ?_; clear h; rintro _ w ⟨rfl, h⟩; try dsimp only [Act.put]) | (refine wl_runs rfl (ex_alloc h _ rfl) ?_; clear h; rintro _ w ⟨g, rfl, h⟩) | (refine wl_runs rfl (ex_box h _ _ rfl _ rfl) ?_; clear h; rintro _ w ⟨g, rfl, h⟩) | (refine wl_runs rfl (ex_box1i h _ _ rfl _ _ rfl) ?_; clear h; rintro _ w ⟨g, rfl, h⟩) | (refine wl_runs rfl (ex_box1s h _ _ rfl _ _ _ rfl) ?_; clear h; rintro _ w ⟨g, rfl, h⟩) | (refine wl_runs rfl (ex_box1b h _ _ rfl _ rfl) ?_; clear h; rintro _ w ⟨g, rfl, h⟩) | (refine wl_runs rfl (ex_box1t h _ _ rfl _ rfl) ?_; clear h; rintro _ w ⟨g, rfl, h⟩) | (refine wl_runs rfl (ex_box1p h _ _ rfl _ rfl) ?_; clear h; rintro _ w ⟨g, rfl, h⟩) | (refine wl_runs rfl (ex_box1m h _ _ rfl _ rfl) ?_; clear h; rintro _ w ⟨g, rfl, h⟩) | (refine wl_runs rfl (ex_slice1 h _ _ rfl _ rfl) ?_; clear h; rintro _ w ⟨g, rfl, h⟩) | (refine wl_runs rfl (ex_slice1i h _ _ rfl _ _ rfl) ?_; clear h; rintro _ w ⟨g, rfl, h⟩) | (refine wl_runs rfl (ex_slice1s h _ _ rfl _ _ _ rfl) ?_; clear h; rintro _ w ⟨g, rfl, h⟩) | (refine wl_runs rfl (ex_slice1b h _ _ rfl _ rfl) ?_; clear h; rintro _ w ⟨g, rfl, h⟩) | (refine wl_runs rfl (ex_slice1t h _ _ rfl _ rfl) ?_; clear h; rintro _ w ⟨g, rfl, h⟩) | (refine wl_runs rfl (ex_slice1p h _ _ rfl _ rfl) ?_; clear h; rintro _ w ⟨g, rfl, h⟩) | (refine wl_runs rfl (ex_slice1m h _ _ rfl _ rfl) ?_; clear h; rintro _ w ⟨g, rfl, h⟩) | (refine wl_reads rfl (ex_lit0 _ rfl) ?_))
      refine bodyPost_ret (res_cell_tmp rfl rfl rfl (h.loadVar 48 gr 0)) rfl ?_
      rw [Hno.out]
      have h6 : St S w0 w (eOwn 26 32 none 0 0 [] :: eSl A n c 1 (u8s l) :: F) := (h.nilRow 26 32).to
      have h7 : St S w0 w (eSl none 0 0 1 (u8s []) :: eOwn 26 32 none 0 0 [] :: eSl A n c 1 (u8s l) :: F) := h6.reading0 (eSl none 0 0 1 (u8s [])) ⟨by omega, Sl.nil _ _⟩ (fun _ hk => hk) (fun _ hk => ft_nil hk)
      have h8 : St S w0 w (eOwn 26 32 none 0 0 [] :: eSl none 0 0 1 (u8s []) :: eSl A n c 1 (u8s l) :: F) := h7.to
      exact ⟨none, 0, none, 0, rfl, h8.perm (((ka.perm.symm).cons _).cons _)⟩
  · have Hm := Lib.hid (Bool.eq_false_iff.2 hmay)
    have Hno := Lib.hid (HOn.out (fun h => hmay h.2))
    by_cases hs5 : s5 = some []
    · have E5 := Lib.hid (show endN s5 = 0 by rw [endN, if_pos hs5])
      clear hs5 hI hmay
      go_enter Try.func25, Try.ntmps25
      go_wp2_with (first
        | (refine wl_reads rfl (ex_lit _ _ rfl [(0, .slice A n c)] rfl) ?_) | (refine wl_runs rfl (ex_box h 94 _ rfl _ rfl) ?_; clear h; rintro _ w ⟨g, rfl, h⟩; replace h := h.newRd (l := l) (t := 94) (good := false) g) | (have q := H1.out; clear H1; go_at_call 61; refine (rr_n (most := 3) h (by omega)).mono ?_; rw [q]; clear h q; rintro e w ⟨rfl, h⟩) | (have q := H2.out; clear H2; go_at_call 61; refine (rr_n (most := 4294967295) (s := s1) h (by omega)).mono ?_; rw [q]; clear h q; rintro e w ⟨rfl, h⟩) | (have q := H3.out; clear H3; go_at_call 61; refine (rr_n (most := 4294967295) (s := s2) h (by omega)).mono ?_; rw [q]; clear h q; rintro e w ⟨rfl, h⟩) | (have q := H4.out; clear H4; go_at_call 59; refine (rr_ids (most := 1000) h (by omega)).mono ?_; rw [q]; clear h q; rintro e w ⟨A1, c1, rfl, h⟩) | (have q := H5.out; clear H5; go_at_call 62; refine (rr_text (most := 70000) h (by omega)).mono ?_; rw [q]; clear h q; rintro e w ⟨B1, d1, rfl, h⟩) | (go_at_call 63; refine (rr_end h).mono ?_; rw [E5.out]; clear E5; rintro e w ⟨rfl, rfl⟩) | (clear tr; refine wl_runs rfl (ex_alloc h 48 rfl) ?_; clear h; rintro _ w ⟨gr, rfl, h⟩) | (refine wl_runs rfl (ex_alloc h 48 rfl) ?_; clear h; rintro _ w ⟨ge, rfl, h⟩) | (refine wl_reads rfl (ex_lit _ _ rfl [(0, .int .i64 (k : Int))] rfl) ?_)
        | (go_at_call 74; unfold c_api_Envelope; have hc := put_ref (HI.out _ A1 B1 c1 d1 (h.sl A1 I.length c1) (h.sl B1 t.length d1)) (by omega) (by omega); rw [Hm.out] at hc; refine hc.mono ?_; clear hc; rintro e w ⟨A2, n2, c2, rfl, hx, hs, _⟩; replace h := h.quiet hs; clear hs)
        | (refine wl_reads rfl (ex_string _ _ _ rfl Try.underlying5 Try.underlying9 A n c rfl (h.sl A n c)) ?_)
        | (refine wl_reads rfl (ex_loadv h _ _ rfl _ _ rfl) ?_) | (refine wl_runs rfl (ex_store1i h _ _ _ rfl _ _ rfl _ _ rfl) ?_; clear h; rintro _ w ⟨rfl, h⟩; try dsimp only [Act.put]) | (refine wl_runs rfl (ex_store1s h _ _ _ rfl _ _ rfl _ _ _ rfl) ?_; clear h; rintro _ w ⟨rfl, h⟩; try dsimp only [Act.put]) | (refine wl_runs rfl (ex_store1b h _ _ _ rfl _ _ rfl _ rfl) ?_; clear h; rintro _ w ⟨rfl, h⟩; try dsimp only [Act.put]) | (refine wl_runs rfl (ex_store1t h _ _ _ rfl _ _ rfl _ rfl) ?_; clear h; rintro _ w ⟨rfl, h⟩; try dsimp only [Act.put]) | (refine wl_runs rfl (ex_store1p h _ _ _ rfl _ _ rfl _ rfl) ?_; clear h; rintro _ w ⟨rfl, h⟩; try dsimp only [Act.put]) | (refine wl_runs rfl (ex_store1m h _ _ _ rfl _ _ rfl _ rfl) ?_; clear h; rintro _ w ⟨rfl, h⟩; try dsimp only [Act.put]) | (refine wl_runs rfl (ex_store h _ _ _ rfl _ _ rfl _ rfl) ?_; clear h; rintro _ w ⟨rfl, h⟩; try dsimp only [Act.put]) | (refine wl_runs rfl (ex_alloc h _ rfl) ?_; clear h; rintro _ w ⟨g, rfl, h⟩) | (refine wl_runs rfl (ex_box h _ _ rfl _ rfl) ?_; clear h; rintro _ w ⟨g, rfl, h⟩) | (refine wl_runs rfl (ex_box1i h _ _ rfl _ _ rfl) ?_; clear h; rintro _ w ⟨g, rfl, h⟩) | (refine wl_runs rfl (ex_box1s h _ _ rfl _ _ _ rfl) ?_; clear h; rintro _ w ⟨g, rfl, h⟩) | (refine wl_runs rfl (ex_box1b h _ _ rfl _ rfl) ?_; clear h; rintro _ w ⟨g, rfl, h⟩) | (refine wl_runs rfl (ex_box1t h _ _ rfl _ rfl) ?_; clear h; rintro _ w ⟨g, rfl, h⟩) | (refine wl_runs rfl (ex_box1p h _ _ rfl _ rfl) ?_; clear h; rintro _ w ⟨g, rfl, h⟩) | (refine wl_runs rfl (ex_box1m h _ _ rfl _ rfl) ?_; clear h; rintro _ w ⟨g, rfl, h⟩) | (refine wl_runs rfl (ex_slice1 h _ _ rfl _ rfl) ?_; clear h; rintro _ w ⟨g, rfl, h⟩) | (refine wl_runs rfl (ex_slice1i h _ _ rfl _ _ rfl) ?_; clear h; rintro _ w ⟨g, rfl, h⟩) | (refine wl_runs rfl (ex_slice1s h _ _ rfl _ _ _ rfl) ?_; clear h; rintro _ w ⟨g, rfl, h⟩) | (refine wl_runs rfl (ex_slice1b h _ _ rfl _ rfl) ?_; clear h; rintro _ w ⟨g, rfl, h⟩) | (refine wl_runs rfl (ex_slice1t h _ _ rfl _ rfl) ?_; clear h; rintro _ w ⟨g, rfl, h⟩) | (refine wl_runs rfl (ex_slice1p h _ _ rfl _ rfl) ?_; clear h; rintro _ w ⟨g, rfl, h⟩) | (refine wl_runs rfl (ex_slice1m h _ _ rfl _ rfl) ?_; clear h; rintro _ w ⟨g, rfl, h⟩) | (refine wl_reads rfl (ex_lit0 _ rfl) ?_))
      refine bodyPost_ret (res_cell_tmp rfl rfl rfl (h.loadVar 48 gr 0)) rfl ?_
      rw [Hno.out]
      have h6 : St S w0 w (eOwn 26 32 none 0 0 [] :: eSl A n c 1 (u8s l) :: F) := (h.nilRow 26 32).to
      have h7 : St S w0 w (eSl none 0 0 1 (u8s []) :: eOwn 26 32 none 0 0 [] :: eSl A n c 1 (u8s l) :: F) := h6.reading0 (eSl none 0 0 1 (u8s [])) ⟨by omega, Sl.nil _ _⟩ (fun _ hk => hk) (fun _ hk => ft_nil hk)
      have h8 : St S w0 w (eOwn 26 32 none 0 0 [] :: eSl none 0 0 1 (u8s []) :: eSl A n c 1 (u8s l) :: F) := h7.to
      exact ⟨none, 0, none, 0, rfl, h8.perm (((ka.perm.symm).cons _).cons _)⟩
    · have E5 := Lib.hid (show endN s5 = 80 by rw [endN, if_neg hs5])
      clear hs5 hI hmay
      go_enter Try.func25, Try.ntmps25
      go_wp2_with (first
        | (refine wl_reads rfl (ex_lit _ _ rfl [(0, .slice A n c)] rfl) ?_) | (refine wl_runs rfl (ex_box h 94 _ rfl _ rfl) ?_; clear h; rintro _ w ⟨g, rfl, h⟩; replace h := h.newRd (l := l) (t := 94) (good := false) g) | (have q := H1.out; clear H1; go_at_call 61; refine (rr_n (most := 3) h (by omega)).mono ?_; rw [q]; clear h q; rintro e w ⟨rfl, h⟩) | (have q := H2.out; clear H2; go_at_call 61; refine (rr_n (most := 4294967295) (s := s1) h (by omega)).mono ?_; rw [q]; clear h q; rintro e w ⟨rfl, h⟩) | (have q := H3.out; clear H3; go_at_call 61; refine (rr_n (most := 4294967295) (s := s2) h (by omega)).mono ?_; rw [q]; clear h q; rintro e w ⟨rfl, h⟩) | (have q := H4.out; clear H4; go_at_call 59; refine (rr_ids (most := 1000) h (by omega)).mono ?_; rw [q]; clear h q; rintro e w ⟨A1, c1, rfl, h⟩) | (have q := H5.out; clear H5; go_at_call 62; refine (rr_text (most := 70000) h (by omega)).mono ?_; rw [q]; clear h q; rintro e w ⟨B1, d1, rfl, h⟩) | (go_at_call 63; refine (rr_end h).mono ?_; rw [E5.out]; clear E5; rintro e w ⟨rfl, rfl⟩) | (clear tr; refine wl_runs rfl (ex_alloc h 48 rfl) ?_; clear h; rintro _ w ⟨gr, rfl, h⟩) | (refine wl_runs rfl (ex_alloc h 48 rfl) ?_; clear h; rintro _ w ⟨ge, rfl, h⟩) | (refine wl_reads rfl (ex_lit _ _ rfl [(0, .int .i64 (k : Int))] rfl) ?_)
        | (go_at_call 74; unfold c_api_Envelope; have hc := put_ref (HI.out _ A1 B1 c1 d1 (h.sl A1 I.length c1) (h.sl B1 t.length d1)) (by omega) (by omega); rw [Hm.out] at hc; refine hc.mono ?_; clear hc; rintro e w ⟨A2, n2, c2, rfl, hx, hs, _⟩; replace h := h.quiet hs; clear hs)
        | (refine wl_reads rfl (ex_string _ _ _ rfl Try.underlying5 Try.underlying9 A n c rfl (h.sl A n c)) ?_)
        | (refine wl_reads rfl (ex_loadv h _ _ rfl _ _ rfl) ?_) | (refine wl_runs rfl (ex_store1i h _ _ _ rfl _ _ rfl _ _ rfl) ?_; clear h; rintro _ w ⟨rfl, h⟩; try dsimp only [Act.put]) | (refine wl_runs rfl (ex_store1s h _ _ _ rfl _ _ rfl _ _ _ rfl) ?_; clear h; rintro _ w ⟨rfl, h⟩; try dsimp only [Act.put]) | (refine wl_runs rfl (ex_store1b h _ _ _ rfl _ _ rfl _ rfl) ?_; clear h; rintro _ w ⟨rfl, h⟩; try dsimp only [Act.put]) | (refine wl_runs rfl (ex_store1t h _ _ _ rfl _ _ rfl _ rfl) ?_; clear h; rintro _ w ⟨rfl, h⟩; try dsimp only [Act.put]) | (refine wl_runs rfl (ex_store1p h _ _ _ rfl _ _ rfl _ rfl) ?_; clear h; rintro _ w ⟨rfl, h⟩; try dsimp only [Act.put]) | (refine wl_runs rfl (ex_store1m h _ _ _ rfl _ _ rfl _ rfl) ?_; clear h; rintro _ w ⟨rfl, h⟩; try dsimp only [Act.put]) | (refine wl_runs rfl (ex_store h _ _ _ rfl _ _ rfl _ rfl) ?_; clear h; rintro _ w ⟨rfl, h⟩; try dsimp only [Act.put]) | (refine wl_runs rfl (ex_alloc h _ rfl) ?_; clear h; rintro _ w ⟨g, rfl, h⟩) | (refine wl_runs rfl (ex_box h _ _ rfl _ rfl) ?_; clear h; rintro _ w ⟨g, rfl, h⟩) | (refine wl_runs rfl (ex_box1i h _ _ rfl _ _ rfl) ?_; clear h; rintro _ w ⟨g, rfl, h⟩) | (refine wl_runs rfl (ex_box1s h _ _ rfl _ _ _ rfl) ?_; clear h; rintro _ w ⟨g, rfl, h⟩) | (refine wl_runs rfl (ex_box1b h _ _ rfl _ rfl) ?_; clear h; rintro _ w ⟨g, rfl, h⟩) | (refine wl_runs rfl (ex_box1t h _ _ rfl _ rfl) ?_; clear h; rintro _ w ⟨g, rfl, h⟩) | (refine wl_runs rfl (ex_box1p h _ _ rfl _ rfl) ?_; clear h; rintro _ w ⟨g, rfl, h⟩) | (refine wl_runs rfl (ex_box1m h _ _ rfl _ rfl) ?_; clear h; rintro _ w ⟨g, rfl, h⟩) | (refine wl_runs rfl (ex_slice1 h _ _ rfl _ rfl) ?_; clear h; rintro _ w ⟨g, rfl, h⟩) | (refine wl_runs rfl (ex_slice1i h _ _ rfl _ _ rfl) ?_; clear h; rintro _ w ⟨g, rfl, h⟩) | (refine wl_runs rfl (ex_slice1s h _ _ rfl _ _ _ rfl) ?_; clear h; rintro _ w ⟨g, rfl, h⟩) | (refine wl_runs rfl (ex_slice1b h _ _ rfl _ rfl) ?_; clear h; rintro _ w ⟨g, rfl, h⟩) | (refine wl_runs rfl (ex_slice1t h _ _ rfl _ rfl) ?_; clear h; rintro _ w ⟨g, rfl, h⟩) | (refine wl_runs rfl (ex_slice1p h _ _ rfl _ rfl) ?_; clear h; rintro _ w ⟨g, rfl, h⟩) | (refine wl_runs rfl (ex_slice1m h _ _ rfl _ rfl) ?_; clear h; rintro _ w ⟨g, rfl, h⟩) | (refine wl_reads rfl (ex_lit0 _ rfl) ?_))
      refine bodyPost_ret (res_cell_tmp rfl rfl rfl (h.loadVar 48 gr 0)) rfl ?_
      rw [Hno.out]
      have h6 : St S w0 w (eOwn 26 32 none 0 0 [] :: eSl A n c 1 (u8s l) :: F) := (h.nilRow 26 32).to
      have h7 : St S w0 w (eSl none 0 0 1 (u8s []) :: eOwn 26 32 none 0 0 [] :: eSl A n c 1 (u8s l) :: F) := h6.reading0 (eSl none 0 0 1 (u8s [])) ⟨by omega, Sl.nil _ _⟩ (fun _ hk => hk) (fun _ hk => ft_nil hk)
      have h8 : St S w0 w (eOwn 26 32 none 0 0 [] :: eSl none 0 0 1 (u8s []) :: eSl A n c 1 (u8s l) :: F) := h7.to
      exact ⟨none, 0, none, 0, rfl, h8.perm (((ka.perm.symm).cons _).cons _)⟩
end Go.Proofs.Ytjnaiicgincndaa
