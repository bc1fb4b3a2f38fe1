/- The law EnvelIds: the id of any envelope, in either mode. -/
import Derived.Test.YtcmgjoamfjijhaaCAgreeD
import Derived.Test.YtcmgjoamfjijhaaCAwake09
namespace Go.Proofs.Ytcmgjoamfjijhaa
open Go.RowKit Go.Maps
set_option linter.unusedVariables false
set_option linter.unusedSimpArgs false

/-- What the law says of the answers. -/
structure SaidE (m : Nat) (T : List UInt8) (e o : Env) (d1 d2 : Id) (b1 b2 : List UInt8) (f1 f2 : Int) (s1 s2 : Su) (r1 r2 : PRs) : Prop where
  p1 : eidM e (newSu m T) = (d1.1, b1, f1, s1)
  q1 : reidM e ⟨m, T, []⟩ = (d1.1, b1, f1, r1)
  p2 : eidM o s1 = (d2.1, b2, f2, s2)
  q2 : reidM o r1 = (d2.1, b2, f2, r2)
  ok1 : SuOk s1
  rk1 : RsOk r1
  n1 : r1.rows.length ≤ 1000000
theorem saidE (m : Nat) (T : List UInt8) (e o : Env) (ha : (outM e).length ≤ maxLen) (hb : (outM o).length ≤ maxLen) : ∃ d1 d2 b1 b2 f1 f2 s1 s2 r1 r2, SaidE m T e o d1 d2 b1 b2 f1 f2 s1 s2 r1 r2 := by
  have k0 : SuOk (newSu m T) := SuOk.new m T
  have r0 : RsOk ⟨m, T, []⟩ := fun x hx => by simp at hx
  obtain ⟨g1, g2, g3, g4⟩ := (AgreeD.new m T).eid e ha r0
  have k1 := eidM_ok (e := e) k0
  have l1 := eidM_len (e := e) (s := newSu m T)
  have x1 := reidM_ok (e := e) r0
  have hn := reidM_rows e ⟨m, T, []⟩
  obtain ⟨x, b1, f1, s1, p1⟩ : ∃ x b1 f1 s1, eidM e (newSu m T) = (x, b1, f1, s1) := ⟨_, _, _, _, rfl⟩
  obtain ⟨x', b1', f1', r1, q1⟩ : ∃ x b1 f1 r1, reidM e ⟨m, T, []⟩ = (x, b1, f1, r1) := ⟨_, _, _, _, rfl⟩
  rw [p1] at g1 g2 g3 g4 k1 l1
  rw [q1] at g1 g2 g3 g4 x1 hn
  simp only at g1 g2 g3 g4 k1 l1 x1 hn
  subst g1 g2 g3
  obtain ⟨y1, y2, y3, y4⟩ := g4.eid o hb x1
  have l2 := eidM_len (e := o) (s := s1)
  obtain ⟨z, b2, f2, s2, p2⟩ : ∃ x b1 f1 s2, eidM o s1 = (x, b1, f1, s2) := ⟨_, _, _, _, rfl⟩
  obtain ⟨z', b2', f2', r2, q2⟩ : ∃ x b1 f1 r2, reidM o r1 = (x, b1, f1, r2) := ⟨_, _, _, _, rfl⟩
  rw [p2] at y1 y2 y3 y4 l2
  rw [q2] at y1 y2 y3 y4
  simp only at y1 y2 y3 y4 l2
  subst y1 y2 y3
  refine ⟨⟨x, l1⟩, ⟨z, l2⟩, b1, b2, f1, f2, s1, s2, r1, r2, ⟨p1, q1, p2, q2, k1, x1, ?_⟩⟩
  simp at hn
  omega
set_option maxRecDepth 100000 in
set_option maxHeartbeats 4000000 in
theorem walk_EnvelIds {w0 : World} {mode : Int} {D : Option Addr} {nd cd : Nat} {T : List UInt8} {e o : Env} {A B A' B' : Option Addr} {n c m d n' c' m' d' : Nat} (_ : (Lit.int .i64 mode).wf = true) (hd : Sl w0 D nd cd 1 (u8s T)) (he : EnvIs w0 e A n c B m d) (ho : EnvIs w0 o A' n' c' B' m' d') :
    Calls Try.prog 9 #[.int .i64 mode, .slice D nd cd, .agg #[.int .i64 e.kind, .int .u32 e.realm, .int .u32 e.epoch, .slice A n c, .slice B m d], .agg #[.int .i64 o.kind, .int .u32 o.realm, .int .u32 o.epoch, .slice A' n' c', .slice B' m' d']] w0 fun e w' => e = .returned (.bool true) ∧ Below w0.heap.size w0 w' := by
  have h := ((((St.read0 hd (by omega)).reading he.body (by omega) (fun k hk => ⟨he.body.ft_lt (by omega) hk, id⟩)).reading he.links (by omega) (fun k hk => ⟨he.links.ft_lt (by omega) hk, id⟩)).reading ho.body (by omega) (fun k hk => ⟨ho.body.ft_lt (by omega) hk, id⟩)).reading ho.links (by omega) (fun k hk => ⟨ho.links.ft_lt (by omega) hk, id⟩)
  have hnd := hd.n_eq
  subst hnd
  have hk := he.kind
  have hr := he.realm
  have hp := he.epoch
  have hk' := ho.kind
  have hr' := ho.realm
  have hp' := ho.epoch
  have hn := he.n_eq
  have hm := he.m_eq
  have hn' := ho.n_eq
  have hm' := ho.m_eq
  have hoe := fun h1 h2 => outM_len he h1 h2
  have hoo := fun h1 h2 => outM_len ho h1 h2
  obtain ⟨k, r, p, I, t⟩ := e
  obtain ⟨k', r', p', I', t'⟩ := o
  simp only at h hk hr hp hn hm hk' hr' hp' hn' hm' hoe hoo ⊢
  clear he ho hd
  subst hn
  subst hm
  subst hn'
  subst hm'
  obtain ⟨f1, hf1⟩ : ∃ f1, (decide (I.length ≤ 40) && decide (t.length ≤ 1000)) = f1 := ⟨_, rfl⟩
  obtain ⟨f2, hf2⟩ : ∃ f2, (decide (I'.length ≤ 40) && decide (t'.length ≤ 1000)) = f2 := ⟨_, rfl⟩
  have Hf1 := Lib.hid hf1
  have Hf2 := Lib.hid hf2
  cases f1 with
  | false =>
    clear hf1 hf2 hoe hoo
    go_enter Try.func9, Try.ntmps9
    go_wp2_with (first | (refine wl_at 6 rfl ?_; refine wl_runs rfl (ex_box h 62 _ rfl [_, _, _, _, _] rfl) ?_; clear h; rintro _ w ⟨g6, rfl, h⟩) | (refine wl_at 7 rfl ?_; refine wl_runs rfl (ex_box h 62 _ rfl [_, _, _, _, _] rfl) ?_; clear h; rintro _ w ⟨g7, rfl, h⟩) | (go_at_call 28; refine (envel_awake _).mono ?_; rintro e w ⟨rfl, hs⟩; replace h := h.quiet hs; clear hs) | (have q := Hf1.out; clear Hf1; go_at_call 29; refine (few_env (e := ⟨k, r, p, I, t⟩)).mono ?_; rintro e w ⟨rfl, hs⟩; rw [q]; clear q; replace h := h.quiet hs; clear hs) | (refine wl_at 25 rfl ?_; refine wl_reads rfl (ex_loadv h _ _ rfl _ _ rfl) ?_))
    go_ret
    exact ⟨rfl, h.step.below⟩
  | true =>
  cases f2 with
  | false =>
    clear hf1 hf2 hoe hoo
    go_enter Try.func9, Try.ntmps9
    go_wp2_with (first | (refine wl_at 6 rfl ?_; refine wl_runs rfl (ex_box h 62 _ rfl [_, _, _, _, _] rfl) ?_; clear h; rintro _ w ⟨g6, rfl, h⟩) | (refine wl_at 7 rfl ?_; refine wl_runs rfl (ex_box h 62 _ rfl [_, _, _, _, _] rfl) ?_; clear h; rintro _ w ⟨g7, rfl, h⟩) | (go_at_call 28; refine (envel_awake _).mono ?_; rintro e w ⟨rfl, hs⟩; replace h := h.quiet hs; clear hs) | (have q := Hf1.out; clear Hf1; go_at_call 29; refine (few_env (e := ⟨k, r, p, I, t⟩)).mono ?_; rintro e w ⟨rfl, hs⟩; rw [q]; clear q; replace h := h.quiet hs; clear hs) | (have q := Hf2.out; clear Hf2; go_at_call 29; refine (few_env (e := ⟨k', r', p', I', t'⟩)).mono ?_; rintro e w ⟨rfl, hs⟩; rw [q]; clear q; replace h := h.quiet hs; clear hs) | (refine wl_reads rfl (ex_loadv h _ _ rfl _ _ rfl) ?_))
    go_ret
    exact ⟨rfl, h.step.below⟩
  | true =>
  have hb : I.length ≤ 40 ∧ t.length ≤ 1000 := by simpa using hf1
  have hb' : I'.length ≤ 40 ∧ t'.length ≤ 1000 := by simpa using hf2
  obtain ⟨hI, ht⟩ := hb
  obtain ⟨hI', ht'⟩ := hb'
  have hoe := hoe hI ht
  have hoo := hoo hI' ht'
  clear hf1 hf2
  by_cases c3 : 300 < T.length
  · clear hoe hoo
    go_enter Try.func9, Try.ntmps9
    go_wp2_with (first | (refine wl_at 6 rfl ?_; refine wl_runs rfl (ex_box h 62 _ rfl [_, _, _, _, _] rfl) ?_; clear h; rintro _ w ⟨g6, rfl, h⟩) | (refine wl_at 7 rfl ?_; refine wl_runs rfl (ex_box h 62 _ rfl [_, _, _, _, _] rfl) ?_; clear h; rintro _ w ⟨g7, rfl, h⟩) | (go_at_call 28; refine (envel_awake _).mono ?_; rintro e w ⟨rfl, hs⟩; replace h := h.quiet hs; clear hs) | (have q := Hf1.out; clear Hf1; go_at_call 29; refine (few_env (e := ⟨k, r, p, I, t⟩)).mono ?_; rintro e w ⟨rfl, hs⟩; rw [q]; clear q; replace h := h.quiet hs; clear hs) | (have q := Hf2.out; clear Hf2; go_at_call 29; refine (few_env (e := ⟨k', r', p', I', t'⟩)).mono ?_; rintro e w ⟨rfl, hs⟩; rw [q]; clear q; replace h := h.quiet hs; clear hs) | (refine wl_reads rfl (ex_loadv h _ _ rfl _ _ rfl) ?_))
    go_ret
    exact ⟨rfl, h.step.below⟩
  rcases and1 mode with hb | hb
  · obtain ⟨d1, d2, b1, b2, f1, f2, s1, s2, r1, r2, hS⟩ := saidE 0 T ⟨k, r, p, I, t⟩ ⟨k', r', p', I', t'⟩ (by simp [maxLen]; omega) (by simp [maxLen]; omega)
    have P1 := Lib.hid hS.p1
    have Q1 := Lib.hid hS.q1
    have P2 := Lib.hid hS.p2
    have Q2 := Lib.hid hS.q2
    have K1 := Lib.hid hS.ok1
    have X1 := Lib.hid hS.rk1
    have N1 := Lib.hid hS.n1
    have hr1 := Row.u32 d1
    have hr2 := Row.u32 d2
    clear hS
    go_enter Try.func9, Try.ntmps9
    go_wp2_with (first
      | (refine wl_at 6 rfl ?_; refine wl_runs rfl (ex_box h 62 _ rfl [_, _, _, _, _] rfl) ?_; clear h; rintro _ w ⟨g6, rfl, h⟩) | (refine wl_at 7 rfl ?_; refine wl_runs rfl (ex_box h 62 _ rfl [_, _, _, _, _] rfl) ?_; clear h; rintro _ w ⟨g7, rfl, h⟩) | (go_at_call 28; refine (envel_awake _).mono ?_; rintro e w ⟨rfl, hs⟩; replace h := h.quiet hs; clear hs) | (have q := Hf1.out; clear Hf1; go_at_call 29; refine (few_env (e := ⟨k, r, p, I, t⟩)).mono ?_; rintro e w ⟨rfl, hs⟩; rw [q]; clear q; replace h := h.quiet hs; clear hs) | (have q := Hf2.out; clear Hf2; go_at_call 29; refine (few_env (e := ⟨k', r', p', I', t'⟩)).mono ?_; rintro e w ⟨rfl, hs⟩; rw [q]; clear q; replace h := h.quiet hs; clear hs)
      | (go_at_call 15; refine (tape_new (A := D) (n := T.length) (c := cd) (b := T) h (by omega)).mono ?_; clear h; rintro e w ⟨gt, A1, ca, rfl, h⟩)
      | (go_at_call 11; refine (su_new0 (tp := some gt) h).mono ?_; clear h; rintro e w ⟨gs, ks, rfl, h⟩)
      | (refine wl_at 46 rfl ?_; refine wl_reads rfl (ex_lit _ _ rfl [(0, .int .i64 0), (1, .slice D T.length cd)] rfl) ?_)
      | (refine wl_at 47 rfl ?_; refine wl_runs rfl (ex_box h 40 _ rfl (c_tabulariumref07_Suite (.int .i64 0) (.slice D T.length cd) (.slice none 0 0) (.slice none 0 0) (.slice none 0 0) (.bool false)) rfl) ?_; clear h; rintro _ w ⟨gr, rfl, h⟩)
      | (have q := P1.out; clear P1; go_at_call 30; refine (env_id (g := gs) (A := A) (B := B) (c := c) (d := d) (I := I) (t := t) h hk hr hp (by omega) (by omega) (SuOk.new _ _) (by omega)).mono ?_; rw [q]; clear q h; rintro e w ⟨A1, c1, rfl, k1, h⟩) | (refine wl_at 11 rfl ?_; refine wl_runs rfl (ex_alloc h 49 rfl) ?_; clear h; rintro _ w ⟨g11, rfl, h⟩) | (refine wl_at 14 rfl ?_; refine wl_runs rfl (ex_alloc h 49 rfl) ?_; clear h; rintro _ w ⟨g14, rfl, h⟩) | (refine wl_at 17 rfl ?_; refine wl_runs rfl (ex_alloc h 49 rfl) ?_; clear h; rintro _ w ⟨g17, rfl, h⟩) | (refine wl_at 20 rfl ?_; refine wl_runs rfl (ex_alloc h 49 rfl) ?_; clear h; rintro _ w ⟨g20, rfl, h⟩) | (refine wl_none rfl ?_; refine wl_runs rfl (ex_store h _ _ _ rfl _ _ rfl _ rfl) ?_; clear h; rintro _ w ⟨rfl, h⟩; try dsimp only [Act.put]) | (refine wl_reads rfl (ex_loadv h _ _ rfl _ _ rfl) ?_))
    have q1 : St (fun _ => False) w0 w (eBlk gr 40 (c_tabulariumref07_Suite (.int .i64 0) (.slice D T.length cd) (.slice none 0 0) (.slice none 0 0) (.slice none 0 0) (.bool false)) :: eSl D T.length cd 1 (u8s T) :: eOwn 92 36 none 0 0 [] :: eSls [] :: [eSl A1 b1.length c1 1 (u8s b1), eSu gs k1 s1, eBlk g11 49 (u8s d1.1), eBlk g7 62 [.int .i64 k', .int .u32 r', .int .u32 p', .slice A' I'.length c', .slice B' t'.length d'], eSl A I.length c 32 (I.flatMap idc), eSl B t.length d 1 (u8s t), eSl A' I'.length c' 32 (I'.flatMap idc), eSl B' t'.length d' 1 (u8s t')]) := ((h.nilRow 92 36).pool0).to
    have q2 : St (fun _ => False) w0 w (RSP gr ⟨D, cd, none, 0, none, 0, 0, none, 0, 0, false⟩ ⟨0, T, []⟩ [eSl A1 b1.length c1 1 (u8s b1), eSu gs k1 s1, eBlk g11 49 (u8s d1.1), eBlk g7 62 [.int .i64 k', .int .u32 r', .int .u32 p', .slice A' I'.length c', .slice B' t'.length d'], eSl A I.length c 32 (I.flatMap idc), eSl B t.length d 1 (u8s t), eSl A' I'.length c' 32 (I'.flatMap idc), eSl B' t'.length d' 1 (u8s t')]) := q1
    replace h := q2.rsShut
    clear q1 q2
    have hee1 : (f1 == f1) = true := by simp
    have hee2 : (f2 == f2) = true := by simp
    have z1 : (d1.1 == d1.1) = true := by simp
    have z2 : (d2.1 == d2.1) = true := by simp
    have y1 : ((str b1).toList == (str b1).toList) = true := by simp
    have y2 : ((str b2).toList == (str b2).toList) = true := by simp
    refine (renv_id (g := gr) (A := A) (B := B) (c := c) (d := d) (I := I) (t := t) h hk hr hp (by omega) (by omega) (by simp) (fun x hx => by simp [RSu.pr] at hx) (by omega)).mono ?_
    have q : reidM ⟨k, r, p, I, t⟩ (RSu.pr ⟨0, T, []⟩) = (d1.1, b1, f1, r1) := Q1.out
    rw [q]
    clear q h Q1
    rintro e w ⟨A2, c2, rfl, j1, t1, hs1, h⟩
    go_wp2_with (first
      | (have q := P2.out; clear P2; go_at_call 30; refine (env_id (g := gs) (A := A') (B := B') (c := c') (d := d') (I := I') (t := t') h hk' hr' hp' (by omega) (by omega) K1.out (by omega)).mono ?_; rw [q]; clear q h; rintro e w ⟨A3, c3, rfl, k2, h⟩) | (have q := Q2.out; clear Q2; go_at_call 31; have hc := renv_id (g := gr) (A := A') (B := B') (c := c') (d := d') (I := I') (t := t') h hk' hr' hp' (by omega) (by omega) (by rw [RSu.pr_rows, hs1]; exact N1.out) (by rw [hs1]; exact X1.out) (by omega); rw [hs1, q] at hc; refine hc.mono ?_; clear hc q h; rintro e w ⟨A4, c4, rfl, j2, t2, hs2, h⟩)
      | (refine wl_at 78 rfl ?_; refine wl_reads rfl (ex_eq 49 (.tmp 76) (.tmp 77) _ rfl d1.1 d1.1 rfl rfl d1.2 d1.2 true z1) ?_)
      | (refine wl_at 81 rfl ?_; refine wl_reads rfl (ex_string _ _ _ rfl Try.underlying5 Try.underlying9 A1 b1.length c1 rfl (h.sl A1 b1.length c1)) ?_)
      | (refine wl_at 83 rfl ?_; refine wl_reads rfl (ex_string _ _ _ rfl Try.underlying5 Try.underlying9 A2 b1.length c2 rfl (h.sl A2 b1.length c2)) ?_)
      | (refine wl_at 94 rfl ?_; refine wl_reads rfl (ex_eq 49 (.tmp 92) (.tmp 93) _ rfl d2.1 d2.1 rfl rfl d2.2 d2.2 true z2) ?_)
      | (refine wl_at 98 rfl ?_; refine wl_reads rfl (ex_string _ _ _ rfl Try.underlying5 Try.underlying9 A3 b2.length c3 rfl (h.sl A3 b2.length c3)) ?_)
      | (refine wl_at 100 rfl ?_; refine wl_reads rfl (ex_string _ _ _ rfl Try.underlying5 Try.underlying9 A4 b2.length c4 rfl (h.sl A4 b2.length c4)) ?_)
      | (refine wl_at 11 rfl ?_; refine wl_runs rfl (ex_alloc h 49 rfl) ?_; clear h; rintro _ w ⟨g11, rfl, h⟩) | (refine wl_at 14 rfl ?_; refine wl_runs rfl (ex_alloc h 49 rfl) ?_; clear h; rintro _ w ⟨g14, rfl, h⟩) | (refine wl_at 17 rfl ?_; refine wl_runs rfl (ex_alloc h 49 rfl) ?_; clear h; rintro _ w ⟨g17, rfl, h⟩) | (refine wl_at 20 rfl ?_; refine wl_runs rfl (ex_alloc h 49 rfl) ?_; clear h; rintro _ w ⟨g20, rfl, h⟩) | (refine wl_none rfl ?_; refine wl_runs rfl (ex_store h _ _ _ rfl _ _ rfl _ rfl) ?_; clear h; rintro _ w ⟨rfl, h⟩; try dsimp only [Act.put]) | (refine wl_reads rfl (ex_loadv h _ _ rfl _ _ rfl) ?_))
    go_ret
    exact ⟨rfl, h.step.below⟩
  · obtain ⟨d1, d2, b1, b2, f1, f2, s1, s2, r1, r2, hS⟩ := saidE 1 T ⟨k, r, p, I, t⟩ ⟨k', r', p', I', t'⟩ (by simp [maxLen]; omega) (by simp [maxLen]; omega)
    have P1 := Lib.hid hS.p1
    have Q1 := Lib.hid hS.q1
    have P2 := Lib.hid hS.p2
    have Q2 := Lib.hid hS.q2
    have K1 := Lib.hid hS.ok1
    have X1 := Lib.hid hS.rk1
    have N1 := Lib.hid hS.n1
    have hr1 := Row.u32 d1
    have hr2 := Row.u32 d2
    clear hS
    go_enter Try.func9, Try.ntmps9
    go_wp2_with (first
      | (refine wl_at 6 rfl ?_; refine wl_runs rfl (ex_box h 62 _ rfl [_, _, _, _, _] rfl) ?_; clear h; rintro _ w ⟨g6, rfl, h⟩) | (refine wl_at 7 rfl ?_; refine wl_runs rfl (ex_box h 62 _ rfl [_, _, _, _, _] rfl) ?_; clear h; rintro _ w ⟨g7, rfl, h⟩) | (go_at_call 28; refine (envel_awake _).mono ?_; rintro e w ⟨rfl, hs⟩; replace h := h.quiet hs; clear hs) | (have q := Hf1.out; clear Hf1; go_at_call 29; refine (few_env (e := ⟨k, r, p, I, t⟩)).mono ?_; rintro e w ⟨rfl, hs⟩; rw [q]; clear q; replace h := h.quiet hs; clear hs) | (have q := Hf2.out; clear Hf2; go_at_call 29; refine (few_env (e := ⟨k', r', p', I', t'⟩)).mono ?_; rintro e w ⟨rfl, hs⟩; rw [q]; clear q; replace h := h.quiet hs; clear hs)
      | (go_at_call 15; refine (tape_new (A := D) (n := T.length) (c := cd) (b := T) h (by omega)).mono ?_; clear h; rintro e w ⟨gt, A1, ca, rfl, h⟩)
      | (go_at_call 11; refine (su_new1 (tp := some gt) h).mono ?_; clear h; rintro e w ⟨gs, ks, rfl, h⟩)
      | (refine wl_at 46 rfl ?_; refine wl_reads rfl (ex_lit _ _ rfl [(0, .int .i64 1), (1, .slice D T.length cd)] rfl) ?_)
      | (refine wl_at 47 rfl ?_; refine wl_runs rfl (ex_box h 40 _ rfl (c_tabulariumref07_Suite (.int .i64 1) (.slice D T.length cd) (.slice none 0 0) (.slice none 0 0) (.slice none 0 0) (.bool false)) rfl) ?_; clear h; rintro _ w ⟨gr, rfl, h⟩)
      | (have q := P1.out; clear P1; go_at_call 30; refine (env_id (g := gs) (A := A) (B := B) (c := c) (d := d) (I := I) (t := t) h hk hr hp (by omega) (by omega) (SuOk.new _ _) (by omega)).mono ?_; rw [q]; clear q h; rintro e w ⟨A1, c1, rfl, k1, h⟩) | (refine wl_at 11 rfl ?_; refine wl_runs rfl (ex_alloc h 49 rfl) ?_; clear h; rintro _ w ⟨g11, rfl, h⟩) | (refine wl_at 14 rfl ?_; refine wl_runs rfl (ex_alloc h 49 rfl) ?_; clear h; rintro _ w ⟨g14, rfl, h⟩) | (refine wl_at 17 rfl ?_; refine wl_runs rfl (ex_alloc h 49 rfl) ?_; clear h; rintro _ w ⟨g17, rfl, h⟩) | (refine wl_at 20 rfl ?_; refine wl_runs rfl (ex_alloc h 49 rfl) ?_; clear h; rintro _ w ⟨g20, rfl, h⟩) | (refine wl_none rfl ?_; refine wl_runs rfl (ex_store h _ _ _ rfl _ _ rfl _ rfl) ?_; clear h; rintro _ w ⟨rfl, h⟩; try dsimp only [Act.put]) | (refine wl_reads rfl (ex_loadv h _ _ rfl _ _ rfl) ?_))
    have q1 : St (fun _ => False) w0 w (eBlk gr 40 (c_tabulariumref07_Suite (.int .i64 1) (.slice D T.length cd) (.slice none 0 0) (.slice none 0 0) (.slice none 0 0) (.bool false)) :: eSl D T.length cd 1 (u8s T) :: eOwn 92 36 none 0 0 [] :: eSls [] :: [eSl A1 b1.length c1 1 (u8s b1), eSu gs k1 s1, eBlk g11 49 (u8s d1.1), eBlk g7 62 [.int .i64 k', .int .u32 r', .int .u32 p', .slice A' I'.length c', .slice B' t'.length d'], eSl A I.length c 32 (I.flatMap idc), eSl B t.length d 1 (u8s t), eSl A' I'.length c' 32 (I'.flatMap idc), eSl B' t'.length d' 1 (u8s t')]) := ((h.nilRow 92 36).pool0).to
    have q2 : St (fun _ => False) w0 w (RSP gr ⟨D, cd, none, 0, none, 0, 0, none, 0, 0, false⟩ ⟨1, T, []⟩ [eSl A1 b1.length c1 1 (u8s b1), eSu gs k1 s1, eBlk g11 49 (u8s d1.1), eBlk g7 62 [.int .i64 k', .int .u32 r', .int .u32 p', .slice A' I'.length c', .slice B' t'.length d'], eSl A I.length c 32 (I.flatMap idc), eSl B t.length d 1 (u8s t), eSl A' I'.length c' 32 (I'.flatMap idc), eSl B' t'.length d' 1 (u8s t')]) := q1
    replace h := q2.rsShut
    clear q1 q2
    have hee1 : (f1 == f1) = true := by simp
    have hee2 : (f2 == f2) = true := by simp
    have z1 : (d1.1 == d1.1) = true := by simp
    have z2 : (d2.1 == d2.1) = true := by simp
    have y1 : ((str b1).toList == (str b1).toList) = true := by simp
    have y2 : ((str b2).toList == (str b2).toList) = true := by simp
    refine (renv_id (g := gr) (A := A) (B := B) (c := c) (d := d) (I := I) (t := t) h hk hr hp (by omega) (by omega) (by simp) (fun x hx => by simp [RSu.pr] at hx) (by omega)).mono ?_
    have q : reidM ⟨k, r, p, I, t⟩ (RSu.pr ⟨1, T, []⟩) = (d1.1, b1, f1, r1) := Q1.out
    rw [q]
    clear q h Q1
    rintro e w ⟨A2, c2, rfl, j1, t1, hs1, h⟩
    go_wp2_with (first
      | (have q := P2.out; clear P2; go_at_call 30; refine (env_id (g := gs) (A := A') (B := B') (c := c') (d := d') (I := I') (t := t') h hk' hr' hp' (by omega) (by omega) K1.out (by omega)).mono ?_; rw [q]; clear q h; rintro e w ⟨A3, c3, rfl, k2, h⟩) | (have q := Q2.out; clear Q2; go_at_call 31; have hc := renv_id (g := gr) (A := A') (B := B') (c := c') (d := d') (I := I') (t := t') h hk' hr' hp' (by omega) (by omega) (by rw [RSu.pr_rows, hs1]; exact N1.out) (by rw [hs1]; exact X1.out) (by omega); rw [hs1, q] at hc; refine hc.mono ?_; clear hc q h; rintro e w ⟨A4, c4, rfl, j2, t2, hs2, h⟩)
      | (refine wl_at 78 rfl ?_; refine wl_reads rfl (ex_eq 49 (.tmp 76) (.tmp 77) _ rfl d1.1 d1.1 rfl rfl d1.2 d1.2 true z1) ?_)
      | (refine wl_at 81 rfl ?_; refine wl_reads rfl (ex_string _ _ _ rfl Try.underlying5 Try.underlying9 A1 b1.length c1 rfl (h.sl A1 b1.length c1)) ?_)
      | (refine wl_at 83 rfl ?_; refine wl_reads rfl (ex_string _ _ _ rfl Try.underlying5 Try.underlying9 A2 b1.length c2 rfl (h.sl A2 b1.length c2)) ?_)
      | (refine wl_at 94 rfl ?_; refine wl_reads rfl (ex_eq 49 (.tmp 92) (.tmp 93) _ rfl d2.1 d2.1 rfl rfl d2.2 d2.2 true z2) ?_)
      | (refine wl_at 98 rfl ?_; refine wl_reads rfl (ex_string _ _ _ rfl Try.underlying5 Try.underlying9 A3 b2.length c3 rfl (h.sl A3 b2.length c3)) ?_)
      | (refine wl_at 100 rfl ?_; refine wl_reads rfl (ex_string _ _ _ rfl Try.underlying5 Try.underlying9 A4 b2.length c4 rfl (h.sl A4 b2.length c4)) ?_)
      | (refine wl_at 11 rfl ?_; refine wl_runs rfl (ex_alloc h 49 rfl) ?_; clear h; rintro _ w ⟨g11, rfl, h⟩) | (refine wl_at 14 rfl ?_; refine wl_runs rfl (ex_alloc h 49 rfl) ?_; clear h; rintro _ w ⟨g14, rfl, h⟩) | (refine wl_at 17 rfl ?_; refine wl_runs rfl (ex_alloc h 49 rfl) ?_; clear h; rintro _ w ⟨g17, rfl, h⟩) | (refine wl_at 20 rfl ?_; refine wl_runs rfl (ex_alloc h 49 rfl) ?_; clear h; rintro _ w ⟨g20, rfl, h⟩) | (refine wl_none rfl ?_; refine wl_runs rfl (ex_store h _ _ _ rfl _ _ rfl _ rfl) ?_; clear h; rintro _ w ⟨rfl, h⟩; try dsimp only [Act.put]) | (refine wl_reads rfl (ex_loadv h _ _ rfl _ _ rfl) ?_))
    go_ret
    exact ⟨rfl, h.step.below⟩
end Go.Proofs.Ytcmgjoamfjijhaa
