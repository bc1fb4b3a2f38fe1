/- The envelope that bytes are. -/
import Derived.Test.YtjnaiicgincndaaRdIds
import Derived.Test.YtjnaiicgincndaaRrCode
import Derived.Test.YtjnaiicgincndaaMay
import Derived.Test.YtjnaiicgincndaaPut
namespace Go.Proofs.Ytjnaiicgincndaa
open Go.RowKit
set_option linter.unusedVariables false
set_option linter.unusedSimpArgs false

def envT (s : RS) : Env × RS := (⟨((numT 3 s).1 : Nat), (numT 4294967295 (numT 3 s).2).1, (numT 4294967295 (numT 4294967295 (numT 3 s).2).2).1, (idsT 1000 (numT 4294967295 (numT 4294967295 (numT 3 s).2).2).2).1, (textT 70000 (idsT 1000 (numT 4294967295 (numT 4294967295 (numT 3 s).2).2).2).2).1⟩, (textT 70000 (idsT 1000 (numT 4294967295 (numT 4294967295 (numT 3 s).2).2).2).2).2)
def envZ : Env := ⟨0, 0, 0, [], []⟩
def envOf (l : List UInt8) : Option Env := if (envT (some l)).2 = some [] ∧ mayM (envT (some l)).1 = true then some (envT (some l)).1 else none
def codeM {α : Type} (o : Option α) (c : Int) : Int := if o.isSome = true then 0 else c
theorem codeM_some {α : Type} (x : α) (c : Int) : codeM (some x) c = 0 := rfl
theorem codeM_none {α : Type} (c : Int) : codeM (none : Option α) c = c := rfl
/-- What is read is put as it was. -/
theorem envOf_put {l : List UInt8} {e : Env} (h : envOf l = some e) : l = putB e ∧ mayM e = true := by
  unfold envOf at h
  split at h
  · rename_i hc
    obtain ⟨h1, h2⟩ := hc
    cases h
    refine ⟨?_, h2⟩
    obtain ⟨h3, _⟩ := textT_spec h1
    obtain ⟨h4, _⟩ := idsT_spec h3
    have h5 := numT_spec h4
    have h6 := numT_spec h5
    have h7 := numT_spec h6
    refine (Option.some.inj h7).trans ?_
    simp only [putB, adB, envT, List.append_assoc, List.append_nil, Int.toNat_natCast]
  · cases h
/-- What is put is read as it was. -/
theorem envOf_of {e : Env} (h : mayM e = true) (hr : e.realm < 2 ^ 32) (hp : e.epoch < 2 ^ 32) : envOf (putB e) = some e := by
  have hm := h
  simp only [mayM, Bool.and_eq_true, decide_eq_true_eq] at hm
  obtain ⟨⟨⟨⟨h1, h2⟩, h3⟩, h4⟩, h5⟩ := hm
  obtain ⟨k, hk⟩ : ∃ k : Nat, e.kind = k := ⟨e.kind.toNat, by omega⟩
  have hT : envT (some (putB e)) = (e, some []) := by
    have e1 : putB e = nM k ++ (nM e.realm ++ (nM e.epoch ++ (nM e.links.length ++ (idsB e.links ++ (nM e.body.length ++ (e.body ++ [])))))) := by
      simp [putB, adB, hk, List.append_assoc]
    rw [e1]
    unfold envT
    rw [numT_nM (by omega)]
    simp only
    rw [numT_nM (by omega)]
    simp only
    rw [numT_nM (by omega)]
    simp only
    rw [idsT_app (by omega)]
    simp only
    rw [textT_app (by omega)]
    simp only
    rw [← hk]
  unfold envOf
  rw [hT]
  simp [h]

theorem envOf_le (l : List UInt8) : ((envOf l).getD envZ).links.length ≤ 1000 ∧ ((envOf l).getD envZ).body.length ≤ 70000 := by
  cases h : envOf l with
  | none => simp [envZ]
  | some e =>
    have := (envOf_put h).2
    simp only [mayM, Bool.and_eq_true, decide_eq_true_eq] at this
    exact ⟨this.1.1.2, this.1.2⟩
theorem envOf_nums (l : List UInt8) : 0 ≤ ((envOf l).getD envZ).kind ∧ ((envOf l).getD envZ).kind ≤ 3 ∧ ((envOf l).getD envZ).realm < 2 ^ 32 ∧ ((envOf l).getD envZ).epoch < 2 ^ 32 := by
  unfold envOf
  split
  · have h1 := numT_le 3 (some l)
    have h2 := numT_le 4294967295 (numT 3 (some l)).2
    have h3 := numT_le 4294967295 (numT 4294967295 (numT 3 (some l)).2).2
    simp only [Option.getD_some, envT]
    exact ⟨by omega, by omega, by omega, by omega⟩
  · simp [envZ]
theorem str_eq_self (l : List UInt8) : ((str l).toList == (str l).toList) = true := by simp
abbrev envV (e : Env) (A : Option Addr) (c : Nat) (B : Option Addr) (d : Nat) : Value := .agg #[.int .i64 e.kind, .int .u32 e.realm, .int .u32 e.epoch, .slice A e.links.length c, .slice B e.body.length d]

set_option maxRecDepth 100000 in
set_option maxHeartbeats 2000000 in
theorem env_of {S : Nat → Prop} {w0 w : World} {L : List Ent} {A : Option Addr} {n c : Nat} {l : List UInt8} (h : St S w0 w L) [ka : HasSl L A n c 1 (u8s l)] (hn : n ≤ 100000000) :
    Calls Try.prog 24 #[.slice A n c] w fun e w' => ∃ A' c' B' d', e = .returned (.tuple #[envV ((envOf l).getD envZ) A' c' B' d', .int .i64 (codeM (envOf l) 90)]) ∧ St S w0 w' (eOwn 26 32 A' ((envOf l).getD envZ).links.length c' (((envOf l).getD envZ).links.flatMap idc) :: eOwn 5 1 B' ((envOf l).getD envZ).body.length d' (u8s ((envOf l).getD envZ).body) :: L) := by
  obtain ⟨O, hO⟩ : ∃ O, envOf l = O := ⟨_, rfl⟩
  rw [hO]
  have b1 := numT_le 3 (some l)
  obtain ⟨k, s1, h1⟩ : ∃ k s1, numT 3 (some l) = (k, s1) := ⟨_, _, rfl⟩
  rw [h1] at b1
  have b2 := numT_le 4294967295 s1
  obtain ⟨r, s2, h2⟩ : ∃ r s2, numT 4294967295 s1 = (r, s2) := ⟨_, _, rfl⟩
  rw [h2] at b2
  have b3 := numT_le 4294967295 s2
  obtain ⟨p, s3, h3⟩ : ∃ p s3, numT 4294967295 s2 = (p, s3) := ⟨_, _, rfl⟩
  rw [h3] at b3
  have b4 := idsT_le 1000 s3
  obtain ⟨I, s4, h4⟩ : ∃ I s4, idsT 1000 s3 = (I, s4) := ⟨_, _, rfl⟩
  rw [h4] at b4
  obtain ⟨t, s5, h5⟩ : ∃ t s5, textT 70000 s4 = (t, s5) := ⟨_, _, rfl⟩
  simp only at b1 b2 b3 b4
  have hT : envT (some l) = (⟨(k : Nat), r, p, I, t⟩, s5) := by unfold envT; rw [h1, h2, h3, h4, h5]
  have hOs : s5 = some [] → mayM ⟨(k : Nat), r, p, I, t⟩ = true → O = some ⟨(k : Nat), r, p, I, t⟩ := fun e1 e2 => by
    rw [← hO, envOf, hT, if_pos ⟨e1, e2⟩]
  have hOn : ¬ (s5 = some [] ∧ mayM ⟨(k : Nat), r, p, I, t⟩ = true) → O = none := fun e1 => by
    rw [← hO, envOf, hT, if_neg e1]
  have H1 := Lib.hid h1
  have H2 := Lib.hid h2
  have H3 := Lib.hid h3
  have H4 := Lib.hid h4
  have H5 := Lib.hid h5
  have HOs := Lib.hid hOs
  have HOn := Lib.hid hOn
  clear h1 h2 h3 h4 h5 hOs hOn hT hO
  have tr := True.intro
  by_cases hs5 : s5 = some []
  · have e5 : endN s5 = 0 := by rw [endN, if_pos hs5]
    have E5 := Lib.hid e5
    have hI : ∀ (W : World) (A1 B1 : Option Addr) (c1 d1 : Nat), Sl W A1 I.length c1 32 (I.flatMap idc) → Sl W B1 t.length d1 1 (u8s t) → EnvIs W ⟨(k : Nat), r, p, I, t⟩ A1 I.length c1 B1 t.length d1 := fun W A1 B1 c1 d1 x y => ⟨x, y, by (have : k = 0 ∨ k = 1 ∨ k = 2 ∨ k = 3 := by omega); rcases this with rfl | rfl | rfl | rfl <;> rfl, by show r < 2 ^ 32; omega, by show p < 2 ^ 32; omega⟩
    have HI := Lib.hid hI
    by_cases hmay : mayM ⟨(k : Nat), r, p, I, t⟩ = true
    · have Hso := Lib.hid (HOs.out hs5 hmay)
      have Hm := Lib.hid hmay
      clear hs5 e5 hI hmay
      go_enter Try.func24, Try.ntmps24
      go_wp2_with (first
        | (go_at_call 52; refine (read_code (l := l) h hn).mono ?_; clear h; rintro e w ⟨g, R, rfl, h⟩) | (have q := H1.out; clear H1; go_at_call 55; refine (rd_n (most := 3) h (by omega)).mono ?_; rw [q]; clear h q; rintro e w ⟨rfl, h⟩) | (have q := H2.out; clear H2; go_at_call 55; refine (rd_n (most := 4294967295) (s := s1) h (by omega)).mono ?_; rw [q]; clear h q; rintro e w ⟨rfl, h⟩) | (have q := H3.out; clear H3; go_at_call 55; refine (rd_n (most := 4294967295) (s := s2) h (by omega)).mono ?_; rw [q]; clear h q; rintro e w ⟨rfl, h⟩) | (have q := H4.out; clear H4; go_at_call 53; refine (rd_ids (most := 1000) h (by omega)).mono ?_; rw [q]; clear h q; rintro e w ⟨A1, c1, rfl, h⟩) | (have q := H5.out; clear H5; go_at_call 56; refine (rd_text (most := 70000) h (by omega)).mono ?_; rw [q]; clear h q; rintro e w ⟨B1, d1, rfl, h⟩) | (go_at_call 57; refine (rd_end h).mono ?_; rw [E5.out]; clear E5; rintro e w ⟨rfl, rfl⟩) | (clear tr; refine wl_runs rfl (ex_alloc h 48 rfl) ?_; clear h; rintro _ w ⟨gr, rfl, h⟩) | (refine wl_runs rfl (ex_alloc h 48 rfl) ?_; clear h; rintro _ w ⟨ge, rfl, h⟩) | (refine wl_reads rfl (ex_lit _ _ rfl [(0, .int .i64 (k : Int))] rfl) ?_)
        | (go_at_call 73; have hc := may_code (HI.out _ A1 B1 c1 d1 (h.sl A1 I.length c1) (h.sl B1 t.length d1)) (by omega); rw [Hm.out] at hc; refine hc.mono ?_; clear hc; rintro e w ⟨rfl, hs⟩; replace h := h.quiet hs; clear hs)
        | (refine wl_reads rfl (ex_loadv h _ _ rfl _ _ rfl) ?_) | (refine wl_runs rfl (ex_store1i h _ _ _ rfl _ _ rfl _ _ rfl) ?_; clear h; rintro _ w ⟨rfl, h⟩; try dsimp only [Act.put]) | (refine wl_runs rfl (ex_store1s h _ _ _ rfl _ _ rfl _ _ _ rfl) ?_; clear h; rintro _ w ⟨rfl, h⟩; try dsimp only [Act.put]) | (refine wl_runs rfl (ex_store1b h _ _ _ rfl _ _ rfl _ rfl) ?_; clear h; rintro _ w ⟨rfl, h⟩; try dsimp only [Act.put]) | (refine wl_runs rfl (ex_store1t h _ _ _ rfl _ _ rfl _ rfl) ?_; clear h; rintro _ w ⟨rfl, h⟩; try dsimp only [Act.put]) | (refine wl_runs rfl (ex_store1p h _ _ _ rfl _ _ rfl _ rfl) ?_; clear h; rintro _ w ⟨rfl, h⟩; try dsimp only [Act.put]) | (refine wl_runs rfl (ex_store1m h _ _ _ rfl _ _ rfl _ rfl) ?_; clear h; rintro _ w ⟨rfl, h⟩; try dsimp only [Act.put]) | (refine wl_runs rfl (ex_store h _ _ _ rfl _ _ rfl _ rfl) ?_; clear h; rintro _ w ⟨rfl, h⟩; try dsimp only [Act.put]) | (refine wl_runs rfl (ex_alloc h _ rfl) ?_; clear h; rintro _ w ⟨g, rfl, h⟩) | (refine wl_runs rfl (ex_box h _ _ rfl _ rfl) ?_; clear h; rintro _ w ⟨g, rfl, h⟩) | (refine wl_runs rfl (ex_box1i h _ _ rfl _ _ rfl) ?_; clear h; rintro _ w ⟨g, rfl, h⟩) | (refine wl_runs rfl (ex_box1s h _ _ rfl _ _ _ rfl) ?_; clear h; rintro _ w ⟨g, rfl, h⟩) | (refine wl_runs rfl (ex_box1b h _ _ rfl _ rfl) ?_; clear h; rintro _ w ⟨g, rfl, h⟩) | (refine wl_runs rfl (ex_box1t h _ _ rfl _ rfl) ?_; clear h; rintro _ w ⟨g, rfl, h⟩) | (refine wl_runs rfl (ex_box1p h _ _ rfl _ rfl) ?_; clear h; rintro _ w ⟨g, rfl, h⟩) | (refine wl_runs rfl (ex_box1m h _ _ rfl _ rfl) ?_; clear h; rintro _ w ⟨g, rfl, h⟩) | (refine wl_runs rfl (ex_slice1 h _ _ rfl _ rfl) ?_; clear h; rintro _ w ⟨g, rfl, h⟩) | (refine wl_runs rfl (ex_slice1i h _ _ rfl _ _ rfl) ?_; clear h; rintro _ w ⟨g, rfl, h⟩) | (refine wl_runs rfl (ex_slice1s h _ _ rfl _ _ _ rfl) ?_; clear h; rintro _ w ⟨g, rfl, h⟩) | (refine wl_runs rfl (ex_slice1b h _ _ rfl _ rfl) ?_; clear h; rintro _ w ⟨g, rfl, h⟩) | (refine wl_runs rfl (ex_slice1t h _ _ rfl _ rfl) ?_; clear h; rintro _ w ⟨g, rfl, h⟩) | (refine wl_runs rfl (ex_slice1p h _ _ rfl _ rfl) ?_; clear h; rintro _ w ⟨g, rfl, h⟩) | (refine wl_runs rfl (ex_slice1m h _ _ rfl _ rfl) ?_; clear h; rintro _ w ⟨g, rfl, h⟩) | (refine wl_reads rfl (ex_lit0 _ rfl) ?_))
      refine bodyPost_ret (res_cell_tmp rfl rfl rfl (h.loadVar 48 gr 0)) rfl ?_
      rw [Hso.out]
      have h6 : St S w0 w (eOwn 26 32 A1 I.length c1 (I.flatMap idc) :: eOwn 5 1 B1 t.length d1 (u8s t) :: L) := h.to
      exact ⟨A1, c1, B1, d1, rfl, h6⟩
    · have Hno := Lib.hid (HOn.out (fun h => hmay h.2))
      have Hm := Lib.hid (Bool.eq_false_iff.2 hmay)
      clear hs5 e5 hI hmay
      go_enter Try.func24, Try.ntmps24
      go_wp2_with (first
        | (go_at_call 52; refine (read_code (l := l) h hn).mono ?_; clear h; rintro e w ⟨g, R, rfl, h⟩) | (have q := H1.out; clear H1; go_at_call 55; refine (rd_n (most := 3) h (by omega)).mono ?_; rw [q]; clear h q; rintro e w ⟨rfl, h⟩) | (have q := H2.out; clear H2; go_at_call 55; refine (rd_n (most := 4294967295) (s := s1) h (by omega)).mono ?_; rw [q]; clear h q; rintro e w ⟨rfl, h⟩) | (have q := H3.out; clear H3; go_at_call 55; refine (rd_n (most := 4294967295) (s := s2) h (by omega)).mono ?_; rw [q]; clear h q; rintro e w ⟨rfl, h⟩) | (have q := H4.out; clear H4; go_at_call 53; refine (rd_ids (most := 1000) h (by omega)).mono ?_; rw [q]; clear h q; rintro e w ⟨A1, c1, rfl, h⟩) | (have q := H5.out; clear H5; go_at_call 56; refine (rd_text (most := 70000) h (by omega)).mono ?_; rw [q]; clear h q; rintro e w ⟨B1, d1, rfl, h⟩) | (go_at_call 57; refine (rd_end h).mono ?_; rw [E5.out]; clear E5; rintro e w ⟨rfl, rfl⟩) | (clear tr; refine wl_runs rfl (ex_alloc h 48 rfl) ?_; clear h; rintro _ w ⟨gr, rfl, h⟩) | (refine wl_runs rfl (ex_alloc h 48 rfl) ?_; clear h; rintro _ w ⟨ge, rfl, h⟩) | (refine wl_reads rfl (ex_lit _ _ rfl [(0, .int .i64 (k : Int))] rfl) ?_)
        | (go_at_call 73; have hc := may_code (HI.out _ A1 B1 c1 d1 (h.sl A1 I.length c1) (h.sl B1 t.length d1)) (by omega); rw [Hm.out] at hc; refine hc.mono ?_; clear hc; rintro e w ⟨rfl, hs⟩; replace h := h.quiet hs; clear hs)
        | (refine wl_reads rfl (ex_loadv h _ _ rfl _ _ rfl) ?_) | (refine wl_runs rfl (ex_store1i h _ _ _ rfl _ _ rfl _ _ rfl) ?_; clear h; rintro _ w ⟨rfl, h⟩; try dsimp only [Act.put]) | (refine wl_runs rfl (ex_store1s h _ _ _ rfl _ _ rfl _ _ _ rfl) ?_; clear h; rintro _ w ⟨rfl, h⟩; try dsimp only [Act.put]) | (refine wl_runs rfl (ex_store1b h _ _ _ rfl _ _ rfl _ rfl) ?_; clear h; rintro _ w ⟨rfl, h⟩; try dsimp only [Act.put]) | (refine wl_runs rfl (ex_store1t h _ _ _ rfl _ _ rfl _ rfl) ?_; clear h; rintro _ w ⟨rfl, h⟩; try dsimp only [Act.put]) | (refine wl_runs rfl (ex_store1p h _ _ _ rfl _ _ rfl _ rfl) ?_; clear h; rintro _ w ⟨rfl, h⟩; try dsimp only [Act.put]) | (refine wl_runs rfl (ex_store1m h _ _ _ rfl _ _ rfl _ rfl) ?_; clear h; rintro _ w ⟨rfl, h⟩; try dsimp only [Act.put]) | (refine wl_runs rfl (ex_store h _ _ _ rfl _ _ rfl _ rfl) ?_; clear h; rintro _ w ⟨rfl, h⟩; try dsimp only [Act.put]) | (refine wl_runs rfl (ex_alloc h _ rfl) ?_; clear h; rintro _ w ⟨g, rfl, h⟩) | (refine wl_runs rfl (ex_box h _ _ rfl _ rfl) ?_; clear h; rintro _ w ⟨g, rfl, h⟩) | (refine wl_runs rfl (ex_box1i h _ _ rfl _ _ rfl) ?_; clear h; rintro _ w ⟨g, rfl, h⟩) | (refine wl_runs rfl (ex_box1s h _ _ rfl _ _ _ rfl) ?_; clear h; rintro _ w ⟨g, rfl, h⟩) | (refine wl_runs rfl (ex_box1b h _ _ rfl _ rfl) ?_; clear h; rintro _ w ⟨g, rfl, h⟩) | (refine wl_runs rfl (ex_box1t h _ _ rfl _ rfl) ?_; clear h; rintro _ w ⟨g, rfl, h⟩) | (refine wl_runs rfl (ex_box1p h _ _ rfl _ rfl) ?_; clear h; rintro _ w ⟨g, rfl, h⟩) | (refine wl_runs rfl (ex_box1m h _ _ rfl _ rfl) ?_; clear h; rintro _ w ⟨g, rfl, h⟩) | (refine wl_runs rfl (ex_slice1 h _ _ rfl _ rfl) ?_; clear h; rintro _ w ⟨g, rfl, h⟩) | (refine wl_runs rfl (ex_slice1i h _ _ rfl _ _ rfl) ?_; clear h; rintro _ w ⟨g, rfl, h⟩) | (refine wl_runs rfl (ex_slice1s h _ _ rfl _ _ _ rfl) ?_; clear h; rintro _ w ⟨g, rfl, h⟩) | (refine wl_runs rfl (ex_slice1b h _ _ rfl _ rfl) ?_; clear h; rintro _ w ⟨g, rfl, h⟩) | (refine wl_runs rfl (ex_slice1t h _ _ rfl _ rfl) ?_; clear h; rintro _ w ⟨g, rfl, h⟩) | (refine wl_runs rfl (ex_slice1p h _ _ rfl _ rfl) ?_; clear h; rintro _ w ⟨g, rfl, h⟩) | (refine wl_runs rfl (ex_slice1m h _ _ rfl _ rfl) ?_; clear h; rintro _ w ⟨g, rfl, h⟩) | (refine wl_reads rfl (ex_lit0 _ rfl) ?_))
      refine bodyPost_ret (res_cell_tmp rfl rfl rfl (h.loadVar 48 gr 0)) rfl ?_
      rw [Hno.out]
      have h6 : St S w0 w (eOwn 26 32 none 0 0 [] :: eOwn 5 1 none 0 0 [] :: L) := ((h.nilRow 26 32).nilRow 5 1).to
      exact ⟨none, 0, none, 0, rfl, h6⟩
  · have e5 : endN s5 = 80 := by rw [endN, if_neg hs5]
    have Hno := Lib.hid (HOn.out (fun h => hs5 h.1))
    have E5 := Lib.hid e5
    clear hs5 e5
    go_enter Try.func24, Try.ntmps24
    go_wp2_with (first
      | (go_at_call 52; refine (read_code (l := l) h hn).mono ?_; clear h; rintro e w ⟨g, R, rfl, h⟩) | (have q := H1.out; clear H1; go_at_call 55; refine (rd_n (most := 3) h (by omega)).mono ?_; rw [q]; clear h q; rintro e w ⟨rfl, h⟩) | (have q := H2.out; clear H2; go_at_call 55; refine (rd_n (most := 4294967295) (s := s1) h (by omega)).mono ?_; rw [q]; clear h q; rintro e w ⟨rfl, h⟩) | (have q := H3.out; clear H3; go_at_call 55; refine (rd_n (most := 4294967295) (s := s2) h (by omega)).mono ?_; rw [q]; clear h q; rintro e w ⟨rfl, h⟩) | (have q := H4.out; clear H4; go_at_call 53; refine (rd_ids (most := 1000) h (by omega)).mono ?_; rw [q]; clear h q; rintro e w ⟨A1, c1, rfl, h⟩) | (have q := H5.out; clear H5; go_at_call 56; refine (rd_text (most := 70000) h (by omega)).mono ?_; rw [q]; clear h q; rintro e w ⟨B1, d1, rfl, h⟩) | (go_at_call 57; refine (rd_end h).mono ?_; rw [E5.out]; clear E5; rintro e w ⟨rfl, rfl⟩) | (clear tr; refine wl_runs rfl (ex_alloc h 48 rfl) ?_; clear h; rintro _ w ⟨gr, rfl, h⟩) | (refine wl_runs rfl (ex_alloc h 48 rfl) ?_; clear h; rintro _ w ⟨ge, rfl, h⟩) | (refine wl_reads rfl (ex_lit _ _ rfl [(0, .int .i64 (k : Int))] rfl) ?_)
      | (refine wl_reads rfl (ex_loadv h _ _ rfl _ _ rfl) ?_) | (refine wl_runs rfl (ex_store1i h _ _ _ rfl _ _ rfl _ _ rfl) ?_; clear h; rintro _ w ⟨rfl, h⟩; try dsimp only [Act.put]) | (refine wl_runs rfl (ex_store1s h _ _ _ rfl _ _ rfl _ _ _ rfl) ?_; clear h; rintro _ w ⟨rfl, h⟩; try dsimp only [Act.put]) | (refine wl_runs rfl (ex_store1b h _ _ _ rfl _ _ rfl _ rfl) ?_; clear h; rintro _ w ⟨rfl, h⟩; try dsimp only [Act.put]) | (refine wl_runs rfl (ex_store1t h _ _ _ rfl _ _ rfl _ rfl) ?_; clear h; rintro _ w ⟨rfl, h⟩; try dsimp only [Act.put]) | (refine wl_runs rfl (ex_store1p h _ _ _ rfl _ _ rfl _ rfl) ?_; clear h; rintro _ w ⟨rfl, h⟩; try dsimp only [Act.put]) | (refine wl_runs rfl (ex_store1m h _ _ _ rfl _ _ rfl _ rfl) ?_; clear h; rintro _ w ⟨rfl, h⟩; try dsimp only [Act.put]) | (refine wl_runs rfl (ex_store h _ _ _ rfl _ _ rfl _ rfl) ?_; clear h; rintro _ w ⟨rfl, h⟩; try dsimp only [Act.put]) | (refine wl_runs rfl (ex_alloc h _ rfl) ?_; clear h; rintro _ w ⟨g, rfl, h⟩) | (refine wl_runs rfl (ex_box h _ _ rfl _ rfl) ?_; clear h; rintro _ w ⟨g, rfl, h⟩) | (refine wl_runs rfl (ex_box1i h _ _ rfl _ _ rfl) ?_; clear h; rintro _ w ⟨g, rfl, h⟩) | (refine wl_runs rfl (ex_box1s h _ _ rfl _ _ _ rfl) ?_; clear h; rintro _ w ⟨g, rfl, h⟩) | (refine wl_runs rfl (ex_box1b h _ _ rfl _ rfl) ?_; clear h; rintro _ w ⟨g, rfl, h⟩) | (refine wl_runs rfl (ex_box1t h _ _ rfl _ rfl) ?_; clear h; rintro _ w ⟨g, rfl, h⟩) | (refine wl_runs rfl (ex_box1p h _ _ rfl _ rfl) ?_; clear h; rintro _ w ⟨g, rfl, h⟩) | (refine wl_runs rfl (ex_box1m h _ _ rfl _ rfl) ?_; clear h; rintro _ w ⟨g, rfl, h⟩) | (refine wl_runs rfl (ex_slice1 h _ _ rfl _ rfl) ?_; clear h; rintro _ w ⟨g, rfl, h⟩) | (refine wl_runs rfl (ex_slice1i h _ _ rfl _ _ rfl) ?_; clear h; rintro _ w ⟨g, rfl, h⟩) | (refine wl_runs rfl (ex_slice1s h _ _ rfl _ _ _ rfl) ?_; clear h; rintro _ w ⟨g, rfl, h⟩) | (refine wl_runs rfl (ex_slice1b h _ _ rfl _ rfl) ?_; clear h; rintro _ w ⟨g, rfl, h⟩) | (refine wl_runs rfl (ex_slice1t h _ _ rfl _ rfl) ?_; clear h; rintro _ w ⟨g, rfl, h⟩) | (refine wl_runs rfl (ex_slice1p h _ _ rfl _ rfl) ?_; clear h; rintro _ w ⟨g, rfl, h⟩) | (refine wl_runs rfl (ex_slice1m h _ _ rfl _ rfl) ?_; clear h; rintro _ w ⟨g, rfl, h⟩) | (refine wl_reads rfl (ex_lit0 _ rfl) ?_))
    refine bodyPost_ret (res_cell_tmp rfl rfl rfl (h.loadVar 48 gr 0)) rfl ?_
    rw [Hno.out]
    have h6 : St S w0 w (eOwn 26 32 none 0 0 [] :: eOwn 5 1 none 0 0 [] :: L) := ((h.nilRow 26 32).nilRow 5 1).to
    exact ⟨none, 0, none, 0, rfl, h6⟩
end Go.Proofs.Ytjnaiicgincndaa
