/- A name is blinded the same way again, in either mode. -/
import Derived.Test.YtcmgjoamfjijhaaCAgree
import Derived.Test.YtcmgjoamfjijhaaCAwake10
import Derived.Test.YtcmgjoamfjijhaaCB2
namespace Go.Proofs.Ytcmgjoamfjijhaa
open Go.RowKit Go.Maps
set_option linter.unusedVariables false
set_option linter.unusedSimpArgs false

theorem rt_awake {S : Nat → Prop} {w0 w : World} {L : List Ent} (h : St S w0 w L) : Calls Try.prog 25 #[] w fun e w' => e = .returned (.bool true) ∧ St S w0 w' L :=
  (route_awake w).mono fun e w' hh => ⟨hh.1, h.quiet hh.2⟩
/-- What the law says of the answers. -/
structure Said (m : Nat) (T : List UInt8) (k : Id) (a b : List UInt8) (d1 d2 d3 : Id) (e1 e2 e3 : Nat) (s1 s2 s3 : Su) (r1 r2 : PRs) : Prop where
  p1 : prfM k 110 a (newSu m T) = (d1.1, e1, s1)
  q1 : rprfM k 110 a ⟨m, T, []⟩ = (d1.1, e1, r1)
  p2 : prfM k 110 b s1 = (d2.1, e2, s2)
  q2 : rprfM k 110 b r1 = (d2.1, e2, r2)
  p3 : prfM k 110 a s2 = (d3.1, e3, s3)
  ok1 : SuOk s1
  ok2 : SuOk s2
  rk1 : RsOk r1
  n1 : r1.rows.length ≤ 1000000
  again : e1 = 0 → e3 = 0 ∧ d3 = d1
theorem said (m : Nat) (T : List UInt8) (k : Id) (a b : List UInt8) (ha : a.length ≤ maxLen) (hb : b.length ≤ maxLen) : ∃ d1 d2 d3 e1 e2 e3 s1 s2 s3 r1 r2, Said m T k a b d1 d2 d3 e1 e2 e3 s1 s2 s3 r1 r2 := by
  have k0 : SuOk (newSu m T) := SuOk.new m T
  have r0 : RsOk ⟨m, T, []⟩ := fun x hx => by simp at hx
  obtain ⟨g1, g2, g3⟩ := (Agree.new m T).prf k 110 a ha
  have k1 := prfM_ok (k := k) (lab := 110) (b := a) k0
  have l1 := prfM_len (k := k) (lab := 110) (b := a) k0
  have x1 := rprfM_ok (k := k) (lab := 110) (b := a) r0
  have hs1 := fun h => prfM_has (k := k) (lab := 110) (b := a) (s := newSu m T) h
  have hn := rprfM_rows k 110 a ⟨m, T, []⟩
  obtain ⟨x, e1, s1, p1⟩ : ∃ x e1 s1, prfM k 110 a (newSu m T) = (x, e1, s1) := ⟨_, _, _, rfl⟩
  obtain ⟨x', e1', r1, q1⟩ : ∃ x e1 r1, rprfM k 110 a ⟨m, T, []⟩ = (x, e1, r1) := ⟨_, _, _, rfl⟩
  rw [p1] at g1 g2 g3 k1 l1 hs1
  rw [q1] at g1 g2 g3 x1 hn
  simp only at g1 g2 g3 k1 l1 hs1 x1 hn
  subst g1 g2
  obtain ⟨y1, y2, y3⟩ := g3.prf k 110 b hb
  have k2 := prfM_ok (k := k) (lab := 110) (b := b) k1
  have l2 := prfM_len (k := k) (lab := 110) (b := b) k1
  have hs2 := fun h => (hs1 h).keep k 110 b
  obtain ⟨z, e2, s2, p2⟩ : ∃ x e1 s1', prfM k 110 b s1 = (x, e1, s1') := ⟨_, _, _, rfl⟩
  obtain ⟨z', e2', r2, q2⟩ : ∃ x e1 r1', rprfM k 110 b r1 = (x, e1, r1') := ⟨_, _, _, rfl⟩
  rw [p2] at y1 y2 y3 k2 l2 hs2
  rw [q2] at y1 y2 y3
  simp only at y1 y2 y3 k2 l2 hs2
  subst y1 y2
  have l3 := prfM_len (k := k) (lab := 110) (b := a) k2
  have hs3 := fun h => (hs2 h).prf
  obtain ⟨v, e3, s3, p3⟩ : ∃ x e1 s1', prfM k 110 a s2 = (x, e1, s1') := ⟨_, _, _, rfl⟩
  rw [p3] at l3 hs3
  simp only at l3 hs3
  refine ⟨⟨x, l1⟩, ⟨z, l2⟩, ⟨v, l3⟩, e1, e2, e3, s1, s2, s3, r1, r2, ⟨p1, q1, p2, q2, p3, k1, k2, x1, ?_, fun h => ⟨(hs3 h).2, Subtype.ext (hs3 h).1⟩⟩⟩
  simp at hn
  omega
set_option maxRecDepth 100000 in
set_option maxHeartbeats 4000000 in
theorem walk_RouteBlinds {w0 : World} {mode : Int} {k : Id} {D : Option Addr} {nd cd : Nat} {T a b : List UInt8} (_ : (Lit.int .i64 mode).wf = true) (hd : Sl w0 D nd cd 1 (u8s T)) (hla : a.length ≤ maxLen) (hlb : b.length ≤ maxLen) :
    Calls Try.prog 8 #[.int .i64 mode, .slice D nd cd, .agg (u8s k.1).toArray, .string (str a), .string (str b)] w0 fun e w' => e = .returned (.bool true) ∧ Below w0.heap.size w0 w' := by
  have h := (St.nil w0).reading hd (by omega) (fun k hk2 => ⟨hd.ft_lt (by omega) hk2, id⟩)
  have hrk := Row.u32 k
  have hnd := hd.n_eq
  have hsa := str_size a
  have hsb := str_size b
  subst hnd
  clear hd
  by_cases c1 : 300 < a.length
  · go_enter Try.func8, Try.ntmps8
    go_wp2_with (first | (refine wl_runs rfl (ex_box h 29 _ rfl (u8s k.1) rfl) ?_; clear h; rintro _ w ⟨g7, rfl, h⟩) | (go_at_call 25; refine (rt_awake h).mono ?_; clear h; rintro e w ⟨rfl, h⟩))
    go_ret
    exact ⟨rfl, h.step.below⟩
  by_cases c2 : 300 < b.length
  · go_enter Try.func8, Try.ntmps8
    go_wp2_with (first | (refine wl_runs rfl (ex_box h 29 _ rfl (u8s k.1) rfl) ?_; clear h; rintro _ w ⟨g7, rfl, h⟩) | (go_at_call 25; refine (rt_awake h).mono ?_; clear h; rintro e w ⟨rfl, h⟩))
    go_ret
    exact ⟨rfl, h.step.below⟩
  by_cases c3 : 300 < T.length
  · go_enter Try.func8, Try.ntmps8
    go_wp2_with (first | (refine wl_runs rfl (ex_box h 29 _ rfl (u8s k.1) rfl) ?_; clear h; rintro _ w ⟨g7, rfl, h⟩) | (go_at_call 25; refine (rt_awake h).mono ?_; clear h; rintro e w ⟨rfl, h⟩))
    go_ret
    exact ⟨rfl, h.step.below⟩
  rcases and1 mode with hb | hb
  · obtain ⟨d1, d2, d3, e1, e2, e3, s1, s2, s3, r1, r2, hS⟩ := said 0 T k a b hla hlb
    have P1 := Lib.hid hS.p1
    have Q1 := Lib.hid hS.q1
    have P2 := Lib.hid hS.p2
    have Q2 := Lib.hid hS.q2
    have P3 := Lib.hid hS.p3
    have K1 := Lib.hid hS.ok1
    have K2 := Lib.hid hS.ok2
    have X1 := Lib.hid hS.rk1
    have N1 := Lib.hid hS.n1
    have Ag := Lib.hid hS.again
    have hr1 := Row.u32 d1
    have hr2 := Row.u32 d2
    have hr3 := Row.u32 d3
    clear hS
    go_enter Try.func8, Try.ntmps8
    go_wp2_with (first
      | (refine wl_runs rfl (ex_box h 29 _ rfl (u8s k.1) rfl) ?_; clear h; rintro _ w ⟨g7, rfl, h⟩) | (go_at_call 25; refine (rt_awake h).mono ?_; clear h; rintro e w ⟨rfl, h⟩)
      | (go_at_call 15; refine (tape_new (A := D) (n := T.length) (c := cd) (b := T) h (by omega)).mono ?_; clear h; rintro e w ⟨gt, A1, ca, rfl, h⟩)
      | (go_at_call 11; refine (su_new0 (tp := some gt) h).mono ?_; clear h; rintro e w ⟨gs, ks, rfl, h⟩)
      | (refine wl_reads rfl (ex_lit _ _ rfl [(0, .int .i64 0), (1, .slice D T.length cd)] rfl) ?_)
      | (refine wl_at 47 rfl ?_; refine wl_runs rfl (ex_box h 40 _ rfl (c_tabulariumref07_Suite (.int .i64 0) (.slice D T.length cd) (.slice none 0 0) (.slice none 0 0) (.slice none 0 0) (.bool false)) rfl) ?_; clear h; rintro _ w ⟨gr, rfl, h⟩)
      | (have q := P1.out; clear P1; go_at_call 26; refine (rt_blind (g := gs) h k a (by omega) (SuOk.new _ _)).mono ?_; rw [q]; clear q h; rintro e w ⟨rfl, k1, h⟩) | (refine wl_at 13 rfl ?_; refine wl_runs rfl (ex_alloc h 49 rfl) ?_; clear h; rintro _ w ⟨g13, rfl, h⟩) | (refine wl_at 15 rfl ?_; refine wl_runs rfl (ex_alloc h 49 rfl) ?_; clear h; rintro _ w ⟨g15, rfl, h⟩) | (refine wl_at 17 rfl ?_; refine wl_runs rfl (ex_alloc h 49 rfl) ?_; clear h; rintro _ w ⟨g17, rfl, h⟩) | (refine wl_at 19 rfl ?_; refine wl_runs rfl (ex_alloc h 49 rfl) ?_; clear h; rintro _ w ⟨g19, rfl, h⟩) | (refine wl_at 21 rfl ?_; refine wl_runs rfl (ex_alloc h 49 rfl) ?_; clear h; rintro _ w ⟨g21, rfl, h⟩) | (refine wl_none rfl ?_; refine wl_runs rfl (ex_store h _ _ _ rfl _ _ rfl _ rfl) ?_; clear h; rintro _ w ⟨rfl, h⟩; try dsimp only [Act.put]) | (refine wl_reads rfl (ex_loadv h _ _ rfl _ _ rfl) ?_))
    have q1 : St (fun _ => False) w0 w (eBlk gr 40 (c_tabulariumref07_Suite (.int .i64 0) (.slice D T.length cd) (.slice none 0 0) (.slice none 0 0) (.slice none 0 0) (.bool false)) :: eSl D T.length cd 1 (u8s T) :: eOwn 92 36 none 0 0 [] :: eSls [] :: [eSu gs k1 s1, eBlk g13 49 (u8s d1.1), eBlk g7 29 (u8s k.1)]) := ((h.nilRow 92 36).pool0).to
    have q2 : St (fun _ => False) w0 w (RSP gr ⟨D, cd, none, 0, none, 0, 0, none, 0, 0, false⟩ ⟨0, T, []⟩ [eSu gs k1 s1, eBlk g13 49 (u8s d1.1), eBlk g7 29 (u8s k.1)]) := q1
    replace h := q2.rsShut
    clear q1 q2
    have hee1 : ((e1 : Int) == (e1 : Int)) = true := by simp
    have hee2 : ((e2 : Int) == (e2 : Int)) = true := by simp
    have b1 : (d1.1 == d1.1) = true := by simp
    have b2 : (d2.1 == d2.1) = true := by simp
    refine (rr_blind (g := gr) h k a (by omega) (by simp) (fun x hx => by simp [RSu.pr] at hx)).mono ?_
    have q : rprfM k 110 a (RSu.pr ⟨0, T, []⟩) = (d1.1, e1, r1) := Q1.out
    rw [q]
    clear q h Q1
    rintro e w ⟨rfl, j1, t1, hs1, h⟩
    by_cases he : e1 = 0
    · obtain ⟨he3, hd3⟩ := Ag.out he
      subst he he3 hd3
      go_wp2_with (first
        | (have q := P2.out; clear P2; go_at_call 26; refine (rt_blind (g := gs) h k b (by omega) K1.out).mono ?_; rw [q]; clear q h; rintro e w ⟨rfl, k2, h⟩) | (have q := Q2.out; clear Q2; go_at_call 27; have hc := rr_blind (g := gr) h k b (by omega) (by rw [RSu.pr_rows, hs1]; exact N1.out) (by rw [hs1]; exact X1.out); rw [hs1, q] at hc; refine hc.mono ?_; clear hc q h; rintro e w ⟨rfl, j2, t2, hs2, h⟩) | (have q := P3.out; clear P3; go_at_call 26; refine (rt_blind (g := gs) h k a (by omega) K2.out).mono ?_; rw [q]; clear q h; rintro e w ⟨rfl, k3, h⟩)
        | (refine wl_at 85 rfl ?_; refine wl_reads rfl (ex_eq 49 (.tmp 83) (.tmp 84) _ rfl d3.1 d3.1 rfl rfl d3.2 d3.2 true b1) ?_)
        | (refine wl_at 94 rfl ?_; refine wl_reads rfl (ex_eq 49 (.tmp 92) (.tmp 93) _ rfl d2.1 d2.1 rfl rfl d2.2 d2.2 true b2) ?_)
        | (refine wl_at 110 rfl ?_; refine wl_reads rfl (ex_eq 49 (.tmp 108) (.tmp 109) _ rfl d3.1 d3.1 rfl rfl d3.2 d3.2 true b1) ?_)
        | (refine wl_at 13 rfl ?_; refine wl_runs rfl (ex_alloc h 49 rfl) ?_; clear h; rintro _ w ⟨g13, rfl, h⟩) | (refine wl_at 15 rfl ?_; refine wl_runs rfl (ex_alloc h 49 rfl) ?_; clear h; rintro _ w ⟨g15, rfl, h⟩) | (refine wl_at 17 rfl ?_; refine wl_runs rfl (ex_alloc h 49 rfl) ?_; clear h; rintro _ w ⟨g17, rfl, h⟩) | (refine wl_at 19 rfl ?_; refine wl_runs rfl (ex_alloc h 49 rfl) ?_; clear h; rintro _ w ⟨g19, rfl, h⟩) | (refine wl_at 21 rfl ?_; refine wl_runs rfl (ex_alloc h 49 rfl) ?_; clear h; rintro _ w ⟨g21, rfl, h⟩) | (refine wl_none rfl ?_; refine wl_runs rfl (ex_store h _ _ _ rfl _ _ rfl _ rfl) ?_; clear h; rintro _ w ⟨rfl, h⟩; try dsimp only [Act.put]) | (refine wl_reads rfl (ex_loadv h _ _ rfl _ _ rfl) ?_))
      go_ret
      exact ⟨rfl, h.step.below⟩
    · have f1 : ((e1 : Int) == 0) = false := by simp; omega
      have f2 : ((e1 : Int) != 0) = true := by simp; omega
      clear Ag
      go_wp2_with (first
        | (have q := P2.out; clear P2; go_at_call 26; refine (rt_blind (g := gs) h k b (by omega) K1.out).mono ?_; rw [q]; clear q h; rintro e w ⟨rfl, k2, h⟩) | (have q := Q2.out; clear Q2; go_at_call 27; have hc := rr_blind (g := gr) h k b (by omega) (by rw [RSu.pr_rows, hs1]; exact N1.out) (by rw [hs1]; exact X1.out); rw [hs1, q] at hc; refine hc.mono ?_; clear hc q h; rintro e w ⟨rfl, j2, t2, hs2, h⟩) | (have q := P3.out; clear P3; go_at_call 26; refine (rt_blind (g := gs) h k a (by omega) K2.out).mono ?_; rw [q]; clear q h; rintro e w ⟨rfl, k3, h⟩)
        | (refine wl_at 85 rfl ?_; refine wl_reads rfl (ex_eq 49 (.tmp 83) (.tmp 84) _ rfl d1.1 d1.1 rfl rfl d1.2 d1.2 true b1) ?_)
        | (refine wl_at 94 rfl ?_; refine wl_reads rfl (ex_eq 49 (.tmp 92) (.tmp 93) _ rfl d2.1 d2.1 rfl rfl d2.2 d2.2 true b2) ?_; go_wp2)
        | (refine wl_at 13 rfl ?_; refine wl_runs rfl (ex_alloc h 49 rfl) ?_; clear h; rintro _ w ⟨g13, rfl, h⟩) | (refine wl_at 15 rfl ?_; refine wl_runs rfl (ex_alloc h 49 rfl) ?_; clear h; rintro _ w ⟨g15, rfl, h⟩) | (refine wl_at 17 rfl ?_; refine wl_runs rfl (ex_alloc h 49 rfl) ?_; clear h; rintro _ w ⟨g17, rfl, h⟩) | (refine wl_at 19 rfl ?_; refine wl_runs rfl (ex_alloc h 49 rfl) ?_; clear h; rintro _ w ⟨g19, rfl, h⟩) | (refine wl_at 21 rfl ?_; refine wl_runs rfl (ex_alloc h 49 rfl) ?_; clear h; rintro _ w ⟨g21, rfl, h⟩) | (refine wl_none rfl ?_; refine wl_runs rfl (ex_store h _ _ _ rfl _ _ rfl _ rfl) ?_; clear h; rintro _ w ⟨rfl, h⟩; try dsimp only [Act.put]) | (refine wl_reads rfl (ex_loadv h _ _ rfl _ _ rfl) ?_))
      go_ret
      exact ⟨rfl, h.step.below⟩
  · obtain ⟨d1, d2, d3, e1, e2, e3, s1, s2, s3, r1, r2, hS⟩ := said 1 T k a b hla hlb
    have P1 := Lib.hid hS.p1
    have Q1 := Lib.hid hS.q1
    have P2 := Lib.hid hS.p2
    have Q2 := Lib.hid hS.q2
    have P3 := Lib.hid hS.p3
    have K1 := Lib.hid hS.ok1
    have K2 := Lib.hid hS.ok2
    have X1 := Lib.hid hS.rk1
    have N1 := Lib.hid hS.n1
    have Ag := Lib.hid hS.again
    have hr1 := Row.u32 d1
    have hr2 := Row.u32 d2
    have hr3 := Row.u32 d3
    clear hS
    go_enter Try.func8, Try.ntmps8
    go_wp2_with (first
      | (refine wl_runs rfl (ex_box h 29 _ rfl (u8s k.1) rfl) ?_; clear h; rintro _ w ⟨g7, rfl, h⟩) | (go_at_call 25; refine (rt_awake h).mono ?_; clear h; rintro e w ⟨rfl, h⟩)
      | (go_at_call 15; refine (tape_new (A := D) (n := T.length) (c := cd) (b := T) h (by omega)).mono ?_; clear h; rintro e w ⟨gt, A1, ca, rfl, h⟩)
      | (go_at_call 11; refine (su_new1 (tp := some gt) h).mono ?_; clear h; rintro e w ⟨gs, ks, rfl, h⟩)
      | (refine wl_reads rfl (ex_lit _ _ rfl [(0, .int .i64 1), (1, .slice D T.length cd)] rfl) ?_)
      | (refine wl_at 47 rfl ?_; refine wl_runs rfl (ex_box h 40 _ rfl (c_tabulariumref07_Suite (.int .i64 1) (.slice D T.length cd) (.slice none 0 0) (.slice none 0 0) (.slice none 0 0) (.bool false)) rfl) ?_; clear h; rintro _ w ⟨gr, rfl, h⟩)
      | (have q := P1.out; clear P1; go_at_call 26; refine (rt_blind (g := gs) h k a (by omega) (SuOk.new _ _)).mono ?_; rw [q]; clear q h; rintro e w ⟨rfl, k1, h⟩) | (refine wl_at 13 rfl ?_; refine wl_runs rfl (ex_alloc h 49 rfl) ?_; clear h; rintro _ w ⟨g13, rfl, h⟩) | (refine wl_at 15 rfl ?_; refine wl_runs rfl (ex_alloc h 49 rfl) ?_; clear h; rintro _ w ⟨g15, rfl, h⟩) | (refine wl_at 17 rfl ?_; refine wl_runs rfl (ex_alloc h 49 rfl) ?_; clear h; rintro _ w ⟨g17, rfl, h⟩) | (refine wl_at 19 rfl ?_; refine wl_runs rfl (ex_alloc h 49 rfl) ?_; clear h; rintro _ w ⟨g19, rfl, h⟩) | (refine wl_at 21 rfl ?_; refine wl_runs rfl (ex_alloc h 49 rfl) ?_; clear h; rintro _ w ⟨g21, rfl, h⟩) | (refine wl_none rfl ?_; refine wl_runs rfl (ex_store h _ _ _ rfl _ _ rfl _ rfl) ?_; clear h; rintro _ w ⟨rfl, h⟩; try dsimp only [Act.put]) | (refine wl_reads rfl (ex_loadv h _ _ rfl _ _ rfl) ?_))
    have q1 : St (fun _ => False) w0 w (eBlk gr 40 (c_tabulariumref07_Suite (.int .i64 1) (.slice D T.length cd) (.slice none 0 0) (.slice none 0 0) (.slice none 0 0) (.bool false)) :: eSl D T.length cd 1 (u8s T) :: eOwn 92 36 none 0 0 [] :: eSls [] :: [eSu gs k1 s1, eBlk g13 49 (u8s d1.1), eBlk g7 29 (u8s k.1)]) := ((h.nilRow 92 36).pool0).to
    have q2 : St (fun _ => False) w0 w (RSP gr ⟨D, cd, none, 0, none, 0, 0, none, 0, 0, false⟩ ⟨1, T, []⟩ [eSu gs k1 s1, eBlk g13 49 (u8s d1.1), eBlk g7 29 (u8s k.1)]) := q1
    replace h := q2.rsShut
    clear q1 q2
    have hee1 : ((e1 : Int) == (e1 : Int)) = true := by simp
    have hee2 : ((e2 : Int) == (e2 : Int)) = true := by simp
    have b1 : (d1.1 == d1.1) = true := by simp
    have b2 : (d2.1 == d2.1) = true := by simp
    refine (rr_blind (g := gr) h k a (by omega) (by simp) (fun x hx => by simp [RSu.pr] at hx)).mono ?_
    have q : rprfM k 110 a (RSu.pr ⟨1, T, []⟩) = (d1.1, e1, r1) := Q1.out
    rw [q]
    clear q h Q1
    rintro e w ⟨rfl, j1, t1, hs1, h⟩
    by_cases he : e1 = 0
    · obtain ⟨he3, hd3⟩ := Ag.out he
      subst he he3 hd3
      go_wp2_with (first
        | (have q := P2.out; clear P2; go_at_call 26; refine (rt_blind (g := gs) h k b (by omega) K1.out).mono ?_; rw [q]; clear q h; rintro e w ⟨rfl, k2, h⟩) | (have q := Q2.out; clear Q2; go_at_call 27; have hc := rr_blind (g := gr) h k b (by omega) (by rw [RSu.pr_rows, hs1]; exact N1.out) (by rw [hs1]; exact X1.out); rw [hs1, q] at hc; refine hc.mono ?_; clear hc q h; rintro e w ⟨rfl, j2, t2, hs2, h⟩) | (have q := P3.out; clear P3; go_at_call 26; refine (rt_blind (g := gs) h k a (by omega) K2.out).mono ?_; rw [q]; clear q h; rintro e w ⟨rfl, k3, h⟩)
        | (refine wl_at 85 rfl ?_; refine wl_reads rfl (ex_eq 49 (.tmp 83) (.tmp 84) _ rfl d3.1 d3.1 rfl rfl d3.2 d3.2 true b1) ?_)
        | (refine wl_at 94 rfl ?_; refine wl_reads rfl (ex_eq 49 (.tmp 92) (.tmp 93) _ rfl d2.1 d2.1 rfl rfl d2.2 d2.2 true b2) ?_)
        | (refine wl_at 110 rfl ?_; refine wl_reads rfl (ex_eq 49 (.tmp 108) (.tmp 109) _ rfl d3.1 d3.1 rfl rfl d3.2 d3.2 true b1) ?_)
        | (refine wl_at 13 rfl ?_; refine wl_runs rfl (ex_alloc h 49 rfl) ?_; clear h; rintro _ w ⟨g13, rfl, h⟩) | (refine wl_at 15 rfl ?_; refine wl_runs rfl (ex_alloc h 49 rfl) ?_; clear h; rintro _ w ⟨g15, rfl, h⟩) | (refine wl_at 17 rfl ?_; refine wl_runs rfl (ex_alloc h 49 rfl) ?_; clear h; rintro _ w ⟨g17, rfl, h⟩) | (refine wl_at 19 rfl ?_; refine wl_runs rfl (ex_alloc h 49 rfl) ?_; clear h; rintro _ w ⟨g19, rfl, h⟩) | (refine wl_at 21 rfl ?_; refine wl_runs rfl (ex_alloc h 49 rfl) ?_; clear h; rintro _ w ⟨g21, rfl, h⟩) | (refine wl_none rfl ?_; refine wl_runs rfl (ex_store h _ _ _ rfl _ _ rfl _ rfl) ?_; clear h; rintro _ w ⟨rfl, h⟩; try dsimp only [Act.put]) | (refine wl_reads rfl (ex_loadv h _ _ rfl _ _ rfl) ?_))
      go_ret
      exact ⟨rfl, h.step.below⟩
    · have f1 : ((e1 : Int) == 0) = false := by simp; omega
      have f2 : ((e1 : Int) != 0) = true := by simp; omega
      clear Ag
      go_wp2_with (first
        | (have q := P2.out; clear P2; go_at_call 26; refine (rt_blind (g := gs) h k b (by omega) K1.out).mono ?_; rw [q]; clear q h; rintro e w ⟨rfl, k2, h⟩) | (have q := Q2.out; clear Q2; go_at_call 27; have hc := rr_blind (g := gr) h k b (by omega) (by rw [RSu.pr_rows, hs1]; exact N1.out) (by rw [hs1]; exact X1.out); rw [hs1, q] at hc; refine hc.mono ?_; clear hc q h; rintro e w ⟨rfl, j2, t2, hs2, h⟩) | (have q := P3.out; clear P3; go_at_call 26; refine (rt_blind (g := gs) h k a (by omega) K2.out).mono ?_; rw [q]; clear q h; rintro e w ⟨rfl, k3, h⟩)
        | (refine wl_at 85 rfl ?_; refine wl_reads rfl (ex_eq 49 (.tmp 83) (.tmp 84) _ rfl d1.1 d1.1 rfl rfl d1.2 d1.2 true b1) ?_)
        | (refine wl_at 94 rfl ?_; refine wl_reads rfl (ex_eq 49 (.tmp 92) (.tmp 93) _ rfl d2.1 d2.1 rfl rfl d2.2 d2.2 true b2) ?_; go_wp2)
        | (refine wl_at 13 rfl ?_; refine wl_runs rfl (ex_alloc h 49 rfl) ?_; clear h; rintro _ w ⟨g13, rfl, h⟩) | (refine wl_at 15 rfl ?_; refine wl_runs rfl (ex_alloc h 49 rfl) ?_; clear h; rintro _ w ⟨g15, rfl, h⟩) | (refine wl_at 17 rfl ?_; refine wl_runs rfl (ex_alloc h 49 rfl) ?_; clear h; rintro _ w ⟨g17, rfl, h⟩) | (refine wl_at 19 rfl ?_; refine wl_runs rfl (ex_alloc h 49 rfl) ?_; clear h; rintro _ w ⟨g19, rfl, h⟩) | (refine wl_at 21 rfl ?_; refine wl_runs rfl (ex_alloc h 49 rfl) ?_; clear h; rintro _ w ⟨g21, rfl, h⟩) | (refine wl_none rfl ?_; refine wl_runs rfl (ex_store h _ _ _ rfl _ _ rfl _ rfl) ?_; clear h; rintro _ w ⟨rfl, h⟩; try dsimp only [Act.put]) | (refine wl_reads rfl (ex_loadv h _ _ rfl _ _ rfl) ?_))
      go_ret
      exact ⟨rfl, h.step.below⟩
end Go.Proofs.Ytcmgjoamfjijhaa
