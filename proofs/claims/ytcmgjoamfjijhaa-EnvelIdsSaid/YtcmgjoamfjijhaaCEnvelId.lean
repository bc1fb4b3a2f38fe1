/- An envelope's id: the program's. -/
import Derived.Test.YtcmgjoamfjijhaaCOutM
import Derived.Test.YtcmgjoamfjijhaaCSuDigest
import Derived.Test.YtcmgjoamfjijhaaCB2
namespace Go.Proofs.Ytcmgjoamfjijhaa
open Go.RowKit Go.Maps
set_option linter.unusedVariables false
set_option linter.unusedSimpArgs false

/-- The id, the bytes, the error's number, the suite behind. -/
def eidM (e : Env) (s : Su) : List UInt8 × List UInt8 × Int × Su :=
  if mayM e then (if (digestM (outM e) s).2.1 = 0 then ((digestM (outM e) s).1, outM e, 0, (digestM (outM e) s).2.2) else (zeros 32, [], ((digestM (outM e) s).2.1 : Int), (digestM (outM e) s).2.2))
  else (zeros 32, [], 90, s)
set_option maxRecDepth 100000 in
set_option maxHeartbeats 2000000 in
theorem env_id {S : Nat → Prop} {w0 w : World} {L F : List Ent} {g : Nat} {k : SuAt} {s : Su} {A B : Option Addr} {c d : Nat} {kd : Int} {re ep : Nat} {I : List Id} {t : List UInt8} (h : St S w0 w L) [sl : SlotU L g k s F] [ka : HasSl F A I.length c 32 (I.flatMap idc)] [kb : HasSl F B t.length d 1 (u8s t)]
    (hkd : (Lit.int .i64 kd).wf = true) (hre : re < 2 ^ 32) (hep : ep < 2 ^ 32) (hI : I.length ≤ 40) (ht : t.length ≤ 1000) (hok : SuOk s) (hol : (outM ⟨kd, re, ep, I, t⟩).length ≤ 1000000) :
    Calls Try.prog 30 #[.pointer (some ⟨g, 0, none⟩), .agg #[.int .i64 kd, .int .u32 re, .int .u32 ep, .slice A I.length c, .slice B t.length d]] w fun r w' => ∃ A1 c1, r = .returned (.tuple #[.agg (u8s (eidM ⟨kd, re, ep, I, t⟩ s).1).toArray, .slice A1 (eidM ⟨kd, re, ep, I, t⟩ s).2.1.length c1, .int .i64 (eidM ⟨kd, re, ep, I, t⟩ s).2.2.1]) ∧ ∃ k', St S w0 w' (eSl A1 (eidM ⟨kd, re, ep, I, t⟩ s).2.1.length c1 1 (u8s (eidM ⟨kd, re, ep, I, t⟩ s).2.1) :: eSu g k' (eidM ⟨kd, re, ep, I, t⟩ s).2.2.2 :: F) := by
  replace h := h.perm sl.perm
  have hz : Row (u8s (zeros 32)) 32 := Row.mk' (by rw [u8s_length]; rfl) (u8s_one _) (by omega)
  obtain ⟨E, hE⟩ : ∃ E : Env, (⟨kd, re, ep, I, t⟩ : Env) = E := ⟨_, rfl⟩
  by_cases hmay : mayM ⟨kd, re, ep, I, t⟩ = true
  · have Hc := Lib.hid (show outC ⟨kd, re, ep, I, t⟩ = 0 by rw [outC, if_pos hmay])
    have hl := digestM_len (b := outM ⟨kd, re, ep, I, t⟩) (s := s)
    have hM : eidM ⟨kd, re, ep, I, t⟩ s = if (digestM (outM ⟨kd, re, ep, I, t⟩) s).2.1 = 0 then ((digestM (outM ⟨kd, re, ep, I, t⟩) s).1, outM ⟨kd, re, ep, I, t⟩, 0, (digestM (outM ⟨kd, re, ep, I, t⟩) s).2.2) else (zeros 32, [], ((digestM (outM ⟨kd, re, ep, I, t⟩) s).2.1 : Int), (digestM (outM ⟨kd, re, ep, I, t⟩) s).2.2) := by unfold eidM; exact if_pos hmay
    rw [hM]
    obtain ⟨O, hO⟩ : ∃ O, outM ⟨kd, re, ep, I, t⟩ = O := ⟨_, rfl⟩
    have Ho := Lib.hid hO
    rw [hO] at hol hl ⊢
    obtain ⟨x, e0, s1, hi⟩ : ∃ x e0 s1, digestM O s = (x, e0, s1) := ⟨_, _, _, rfl⟩
    rw [hi] at hl ⊢
    have Hi := Lib.hid hi
    obtain ⟨dd, hd⟩ : ∃ dd : Id, dd.1 = x := ⟨⟨x, hl⟩, rfl⟩
    subst hd
    have hr := Row.u32 dd
    clear hl hM hO hi hmay hE
    simp only
    by_cases he : e0 = 0
    · rw [if_pos he]
      subst he
      go_enter Try.func30, Try.ntmps30
      go_wp2_with (first
        | (refine wl_runs rfl (ex_box h 62 _ rfl [_, _, _, _, _] rfl) ?_; clear h; rintro _ w ⟨g3, rfl, h⟩) | (refine wl_at 4 rfl ?_; refine wl_runs rfl (ex_alloc h 49 rfl) ?_; clear h; rintro _ w ⟨g4, rfl, h⟩) | (refine wl_at 9 rfl ?_; refine wl_runs rfl (ex_alloc h 49 rfl) ?_; clear h; rintro _ w ⟨g9, rfl, h⟩) | (go_at_call 50; refine (put_code2 (e := ⟨kd, re, ep, I, t⟩) ⟨h.sl A I.length c, h.sl B t.length d, hkd, hre, hep⟩ (by omega) (by omega)).mono ?_; rw [Ho.out, Hc.out]; rintro e w ⟨A1, n1, c1, rfl, hx, hs, hA⟩; replace h := h.got hx hs hA; clear hx hs hA)
        | (go_at_call 21; have hn1 := (h.sl A1 n1 c1).n_eq; refine (su_digest (g := g) (A := A1) (n := n1) (c := c1) (b := O) h (by omega) hok).mono ?_; rw [Hi.out]; clear h; rintro e w ⟨rfl, k1, h⟩; subst hn1)
        | (refine wl_none rfl ?_; refine wl_runs rfl (ex_store h _ _ _ rfl _ _ rfl _ rfl) ?_; clear h; rintro _ w ⟨rfl, h⟩; try dsimp only [Act.put]) | (refine wl_reads rfl (ex_lit0 _ rfl) ?_) | (refine wl_reads rfl (ex_loadv h _ _ rfl _ _ rfl) ?_))
      refine bodyPost_ret (res_cell_tmp2 rfl rfl rfl rfl (h.loadVar 49 g4 0)) rfl ?_
      have q1 := h.releaseGot A1 (n := O.length) (c := c1) (sz := 1) (xs := u8s O)
      exact ⟨A1, c1, rfl, k1, q1.to⟩
    · rw [if_neg he]
      have f2 : ((e0 : Int) == 0) = false := by simp; omega
      have f3 : ((e0 : Int) != 0) = true := by simp; omega
      go_enter Try.func30, Try.ntmps30
      go_wp2_with (first
        | (refine wl_runs rfl (ex_box h 62 _ rfl [_, _, _, _, _] rfl) ?_; clear h; rintro _ w ⟨g3, rfl, h⟩) | (refine wl_at 4 rfl ?_; refine wl_runs rfl (ex_alloc h 49 rfl) ?_; clear h; rintro _ w ⟨g4, rfl, h⟩) | (refine wl_at 9 rfl ?_; refine wl_runs rfl (ex_alloc h 49 rfl) ?_; clear h; rintro _ w ⟨g9, rfl, h⟩) | (go_at_call 50; refine (put_code2 (e := ⟨kd, re, ep, I, t⟩) ⟨h.sl A I.length c, h.sl B t.length d, hkd, hre, hep⟩ (by omega) (by omega)).mono ?_; rw [Ho.out, Hc.out]; rintro e w ⟨A1, n1, c1, rfl, hx, hs, hA⟩; replace h := h.got hx hs hA; clear hx hs hA)
        | (go_at_call 21; have hn1 := (h.sl A1 n1 c1).n_eq; refine (su_digest (g := g) (A := A1) (n := n1) (c := c1) (b := O) h (by omega) hok).mono ?_; rw [Hi.out]; clear h; rintro e w ⟨rfl, k1, h⟩; subst hn1)
        | (refine wl_none rfl ?_; refine wl_runs rfl (ex_store h _ _ _ rfl _ _ rfl _ rfl) ?_; clear h; rintro _ w ⟨rfl, h⟩; try dsimp only [Act.put]) | (refine wl_reads rfl (ex_lit0 _ rfl) ?_) | (refine wl_reads rfl (ex_loadv h _ _ rfl _ _ rfl) ?_))
      refine bodyPost_ret (res_cell_tmp2 rfl rfl rfl rfl (h.loadVar 49 g4 0)) rfl ?_
      have q1 : St S w0 w (eSl none 0 0 1 [] :: eSu g k1 s1 :: F) := ((h.nilRow 5 1).release none (by omega)).to
      exact ⟨none, 0, rfl, k1, q1⟩
  · have Hc := Lib.hid (show outC ⟨kd, re, ep, I, t⟩ = 90 by rw [outC, if_neg hmay])
    have hM : eidM ⟨kd, re, ep, I, t⟩ s = (zeros 32, [], 90, s) := by unfold eidM; exact if_neg hmay
    rw [hM]
    obtain ⟨O, hO⟩ : ∃ O, outM ⟨kd, re, ep, I, t⟩ = O := ⟨_, rfl⟩
    have Ho := Lib.hid hO
    clear hM hO hmay hE hol
    go_enter Try.func30, Try.ntmps30
    go_wp2_with (first
      | (refine wl_runs rfl (ex_box h 62 _ rfl [_, _, _, _, _] rfl) ?_; clear h; rintro _ w ⟨g3, rfl, h⟩) | (refine wl_at 4 rfl ?_; refine wl_runs rfl (ex_alloc h 49 rfl) ?_; clear h; rintro _ w ⟨g4, rfl, h⟩) | (refine wl_at 9 rfl ?_; refine wl_runs rfl (ex_alloc h 49 rfl) ?_; clear h; rintro _ w ⟨g9, rfl, h⟩) | (go_at_call 50; refine (put_code2 (e := ⟨kd, re, ep, I, t⟩) ⟨h.sl A I.length c, h.sl B t.length d, hkd, hre, hep⟩ (by omega) (by omega)).mono ?_; rw [Ho.out, Hc.out]; rintro e w ⟨A1, n1, c1, rfl, hx, hs, hA⟩; replace h := h.got hx hs hA; clear hx hs hA) | (refine wl_none rfl ?_; refine wl_runs rfl (ex_store h _ _ _ rfl _ _ rfl _ rfl) ?_; clear h; rintro _ w ⟨rfl, h⟩; try dsimp only [Act.put]) | (refine wl_reads rfl (ex_lit0 _ rfl) ?_) | (refine wl_reads rfl (ex_loadv h _ _ rfl _ _ rfl) ?_))
    refine bodyPost_ret (res_cell_tmp2 rfl rfl rfl rfl (h.loadVar 49 g4 0)) rfl ?_
    have q1 : St S w0 w (eSl none 0 0 1 [] :: eSu g k s :: F) := ((h.nilRow 5 1).release none (by omega)).to
    exact ⟨none, 0, rfl, k, q1⟩
end Go.Proofs.Ytcmgjoamfjijhaa
