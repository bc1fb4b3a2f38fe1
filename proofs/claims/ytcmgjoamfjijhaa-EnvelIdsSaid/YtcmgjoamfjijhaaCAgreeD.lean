/- The program's digests and the reference's answer alike. (Begun.) -/
import Derived.Test.YtcmgjoamfjijhaaCAgree
import Derived.Test.YtcmgjoamfjijhaaCEnvelId
import Derived.Test.YtcmgjoamfjijhaaCREnvelId
namespace Go.Proofs.Ytcmgjoamfjijhaa
open Go.RowKit Go.Maps
set_option linter.unusedVariables false
set_option linter.unusedSimpArgs false

/-- The texts whose digest was d. -/
def Kd (rows : List PR) (d t : List UInt8) : Prop := ∃ x ∈ rows, x.1 = 2 ∧ x.2.2.2.2 = d ∧ x.2.2.2.1 = t
structure AgreeD (s : Su) (r : PRs) : Prop where
  mode : s.mode = r.mode
  tape : s.tape = r.tape
  small : ∀ x ∈ r.rows, x.2.2.2.2.length ≤ maxLen
  ans : r.mode ≠ 0 → ∀ q : Ask, mget s.ans q = (pfind r.rows (q.1.1 + 1) q.2.1 q.2.2.1.1 q.2.2.2.1).map fun x => mkNm x.2.2.2.2
  none : ∀ d : Id, mget s.texts d = none ↔ ∀ t, ¬ Kd r.rows d.1 t
  some : ∀ (d : Id) (t : Nm), mget s.texts d = some t → Kd r.rows d.1 t.1
  twice : ∀ d : Id, dblM d s = true ↔ ∃ t1 t2, Kd r.rows d.1 t1 ∧ Kd r.rows d.1 t2 ∧ t1 ≠ t2
  real : r.mode = 0 → ∀ x ∈ r.rows, x.1 = 2 → x.2.2.2.2 = sumM x.2.2.2.1
/-- Behind the answer. -/
theorem AgreeD.close {s : Su} {r : PRs} (h : AgreeD s r) {d : Id} {b : List UInt8} (hb : Kd r.rows d.1 b) : (closeM d s).1 = (rcloseM d.1 b r).1 ∧ (closeM d s).2 = (rcloseM d.1 b r).2.1 ∧ (rcloseM d.1 b r).2.2 = r := by
  have he : dblM d s = true ↔ r.rows.any (pcl d.1 b) = true := by
    rw [h.twice d, List.any_eq_true]
    constructor
    · rintro ⟨t1, t2, ⟨x, hx, x1, x2, x3⟩, ⟨y, hy, y1, y2, y3⟩, hne⟩
      by_cases h1 : t1 = b
      · exact ⟨y, hy, decide_eq_true ⟨y1, y2, fun e => hne (by rw [h1, ← e, y3])⟩⟩
      · exact ⟨x, hx, decide_eq_true ⟨x1, x2, fun e => h1 (by rw [← x3, e])⟩⟩
    · rintro ⟨x, hx, hc⟩
      obtain ⟨x1, x2, x3⟩ := of_decide_eq_true hc
      exact ⟨x.2.2.2.1, b, ⟨x, hx, x1, x2, rfl⟩, hb, x3⟩
  unfold closeM rcloseM
  by_cases hd : dblM d s = true
  · rw [if_pos hd, if_pos (he.1 hd)]
    exact ⟨rfl, rfl, rfl⟩
  · rw [if_neg hd, if_neg (fun e => hd (he.2 e))]
    exact ⟨rfl, rfl, rfl⟩
/-- What a text noted does to the lists. -/
theorem markM_texts (d d' : Id) (b : Nm) (s : Su) : mget (markM d b s).texts d' = if d' = d ∧ mget s.texts d = Option.none then Option.some b else mget s.texts d' := by
  unfold markM
  cases hg : mget s.texts d with
  | none =>
    show mget (mset s.texts d b) d' = _
    rw [mget_set]
    by_cases he : d' = d
    · rw [if_pos he, if_pos ⟨he, rfl⟩]
    · rw [if_neg he, if_neg (fun e => he e.1)]
  | some was =>
    simp only
    rw [if_neg (c := d' = d ∧ (Option.some was) = Option.none) (by rintro ⟨_, h⟩; cases h)]
    by_cases hw : was.1 = b.1
    · rw [if_pos hw]
    · rw [if_neg hw]
theorem markM_dbl (d d' : Id) (b : Nm) (s : Su) : dblM d' (markM d b s) = if d' = d ∧ (∃ was, mget s.texts d = Option.some was ∧ was.1 ≠ b.1) then true else dblM d' s := by
  unfold markM dblM
  cases hg : mget s.texts d with
  | none =>
    simp only
    rw [if_neg (by rintro ⟨_, w, h, _⟩; cases h)]
  | some was =>
    simp only
    by_cases hw : was.1 = b.1
    · rw [if_pos hw, if_neg (by rintro ⟨_, w, h, hh⟩; cases h; exact hh hw)]
    · rw [if_neg hw]
      show (mget (mset s.dbl d true) d').getD false = _
      rw [mget_set]
      by_cases he : d' = d
      · rw [if_pos he, if_pos ⟨he, was, rfl, hw⟩]
        rfl
      · rw [if_neg he, if_neg (fun e => he e.1)]
/-- A text noted on both sides. -/
theorem AgreeD.mark {s : Su} {r r' : PRs} {d : Id} {b : Nm} (hT : ∀ d : Id, mget s.texts d = Option.none ↔ ∀ t, ¬ Kd r.rows d.1 t) (hS : ∀ (d : Id) (t : Nm), mget s.texts d = Option.some t → Kd r.rows d.1 t.1) (hD : ∀ d : Id, dblM d s = true ↔ ∃ t1 t2, Kd r.rows d.1 t1 ∧ Kd r.rows d.1 t2 ∧ t1 ≠ t2)
    (hk : ∀ d' t, Kd r'.rows d' t ↔ Kd r.rows d' t ∨ (d' = d.1 ∧ t = b.1)) (hmo : s.mode = r'.mode) (hta : s.tape = r'.tape) (hsm : ∀ x ∈ r'.rows, x.2.2.2.2.length ≤ maxLen) (han : r'.mode ≠ 0 → ∀ q : Ask, mget s.ans q = (pfind r'.rows (q.1.1 + 1) q.2.1 q.2.2.1.1 q.2.2.2.1).map fun x => mkNm x.2.2.2.2) (hr : r'.mode = 0 → ∀ x ∈ r'.rows, x.1 = 2 → x.2.2.2.2 = sumM x.2.2.2.1) : AgreeD (markM d b s) r' := by
  have hm : (markM d b s).mode = s.mode ∧ (markM d b s).tape = s.tape ∧ (markM d b s).ans = s.ans := by
    unfold markM
    split
    · exact ⟨rfl, rfl, rfl⟩
    · split <;> exact ⟨rfl, rfl, rfl⟩
  have hid : ∀ d' : Id, d'.1 = d.1 ↔ d' = d := fun d' => ⟨Subtype.ext, fun e => by rw [e]⟩
  refine ⟨hm.1.trans hmo, hm.2.1.trans hta, hsm, fun h0 q => by rw [hm.2.2]; exact han h0 q, fun d' => ?_, fun d' t ht => ?_, fun d' => ?_, hr⟩
  · rw [markM_texts]
    by_cases he : d' = d ∧ mget s.texts d = Option.none
    · rw [if_pos he]
      constructor
      · intro h; cases h
      · intro h
        exact absurd ((hk d'.1 b.1).2 (.inr ⟨by rw [he.1], rfl⟩)) (h b.1)
    · rw [if_neg he, hT d']
      constructor
      · intro h t ht
        rcases (hk d'.1 t).1 ht with h1 | ⟨h1, _⟩
        · exact h t h1
        · have e := (hid d').1 h1
          exact he ⟨e, (hT d).2 (by rw [← e]; exact h)⟩
      · intro h t ht
        exact h t ((hk d'.1 t).2 (.inl ht))
  · rw [markM_texts] at ht
    by_cases he : d' = d ∧ mget s.texts d = Option.none
    · rw [if_pos he] at ht
      cases ht
      exact (hk d'.1 b.1).2 (.inr ⟨by rw [he.1], rfl⟩)
    · rw [if_neg he] at ht
      exact (hk d'.1 t.1).2 (.inl (hS d' t ht))
  · rw [markM_dbl]
    by_cases he : d' = d ∧ ∃ was, mget s.texts d = Option.some was ∧ was.1 ≠ b.1
    · rw [if_pos he]
      obtain ⟨rfl, was, hw, hne⟩ := he
      simp only [true_iff]
      exact ⟨was.1, b.1, (hk _ _).2 (.inl (hS _ _ hw)), (hk _ _).2 (.inr ⟨rfl, rfl⟩), hne⟩
    · rw [if_neg he, hD d']
      constructor
      · rintro ⟨t1, t2, h1, h2, h3⟩
        exact ⟨t1, t2, (hk _ _).2 (.inl h1), (hk _ _).2 (.inl h2), h3⟩
      · rintro ⟨t1, t2, h1, h2, h3⟩
        by_cases hdd : d' = d
        · subst hdd
          have hall : ∀ was, mget s.texts d' = Option.some was → was.1 = b.1 := fun was hw => Classical.byContradiction fun hne => he ⟨rfl, was, hw, hne⟩
          cases hg : mget s.texts d' with
          | none =>
            have h0 := (hT d').1 hg
            have e1 : t1 = b.1 := by rcases (hk _ _).1 h1 with h | ⟨_, h⟩; exact absurd h (h0 _); exact h
            have e2 : t2 = b.1 := by rcases (hk _ _).1 h2 with h | ⟨_, h⟩; exact absurd h (h0 _); exact h
            exact absurd (e1.trans e2.symm) h3
          | some was =>
            have hb : Kd r.rows d'.1 b.1 := by rw [← hall was hg]; exact hS _ _ hg
            have g : ∀ t, Kd r'.rows d'.1 t → Kd r.rows d'.1 t := fun t ht => by
              rcases (hk _ _).1 ht with h | ⟨_, h⟩
              · exact h
              · rw [h]; exact hb
            exact ⟨t1, t2, g _ h1, g _ h2, h3⟩
        · have g : ∀ t, Kd r'.rows d'.1 t → Kd r.rows d'.1 t := fun t ht => by
            rcases (hk _ _).1 ht with h | ⟨h, _⟩
            · exact h
            · exact absurd ((hid d').1 h) hdd
          exact ⟨t1, t2, g _ h1, g _ h2, h3⟩
theorem AgreeD.new (m : Nat) (T : List UInt8) : AgreeD (newSu m T) ⟨m, T, []⟩ :=
  ⟨rfl, rfl, (by simp), fun _ q => rfl, fun d => ⟨fun _ t ⟨x, hx, _⟩ => by simp at hx, fun _ => rfl⟩, fun d t h => by simp [newSu, mget_nil] at h, fun d => ⟨fun h => by simp [dblM, newSu, mget_nil] at h, fun ⟨t1, t2, ⟨x, hx, _⟩, _⟩ => by simp at hx⟩, fun _ x hx => by simp at hx⟩
theorem Kd_snoc {rows : List PR} {y : PR} (hy : y.1 = 2) (d t : List UInt8) : Kd (rows ++ [y]) d t ↔ Kd rows d t ∨ (d = y.2.2.2.2 ∧ t = y.2.2.2.1) := by
  constructor
  · rintro ⟨x, hx, h1, h2, h3⟩
    rcases List.mem_append.1 hx with hx | hx
    · exact .inl ⟨x, hx, h1, h2, h3⟩
    · rw [List.mem_singleton] at hx
      subst hx
      exact .inr ⟨h2.symm, h3.symm⟩
  · rintro (⟨x, hx, h⟩ | ⟨h1, h2⟩)
    · exact ⟨x, List.mem_append_left _ hx, h⟩
    · exact ⟨y, by simp, hy, h1.symm, h2.symm⟩
theorem Kd_same {rows : List PR} {d t : List UInt8} (h : Kd rows d t) (d' t' : List UInt8) : Kd rows d' t' ↔ Kd rows d' t' ∨ (d' = d ∧ t' = t) :=
  ⟨.inl, fun hh => hh.elim id (fun e => by rw [e.1, e.2]; exact h)⟩
theorem pfind_hit {rows : List PR} {q : Nat} {k : Id} {lab inp : List UInt8} {x : PR} (h : pfind rows q k lab inp = Option.some x) : x.2.2.2.1 = inp := by
  have := List.find?_some h
  unfold phit at this
  exact (of_decide_eq_true this).2.2.2
theorem idealM_same {q : Ask} {n : Nat} {s : Su} : (idealM q n s).2.texts = s.texts ∧ (idealM q n s).2.dbl = s.dbl ∧ ((idealM q n s).1 = Option.none → (idealM q n s).2 = s) := by
  unfold idealM
  split
  · exact ⟨rfl, rfl, fun _ => rfl⟩
  · split
    · exact ⟨rfl, rfl, fun h => by cases h⟩
    · exact ⟨rfl, rfl, fun _ => rfl⟩
theorem ridealM_kd (b : List UInt8) (r : PRs) : ((ridealM 2 zk [] b 32 r).2.1 = 0 → ∀ d t, Kd (ridealM 2 zk [] b 32 r).2.2.rows d t ↔ Kd r.rows d t ∨ (d = (ridealM 2 zk [] b 32 r).1 ∧ t = b)) ∧ ((ridealM 2 zk [] b 32 r).2.1 ≠ 0 → (ridealM 2 zk [] b 32 r).2.2 = r) ∧ (ridealM 2 zk [] b 32 r).2.2.mode = r.mode := by
  unfold ridealM
  split
  · rename_i x hx
    refine ⟨fun _ d t => Kd_same ⟨x, (pfind_mem hx).1, (pfind_mem hx).2, rfl, pfind_hit hx⟩ d t, fun h => absurd rfl h, rfl⟩
  · split
    · exact ⟨fun _ d t => Kd_snoc rfl d t, fun h => absurd rfl h, rfl⟩
    · exact ⟨fun h => (by cases h), fun _ => rfl, rfl⟩
/-- Both digests. -/
theorem AgreeD.digest {s : Su} {r : PRs} (h : AgreeD s r) (b : List UInt8) (hb : b.length ≤ maxLen) (hok : RsOk r) :
    (digestM b s).1 = (rdigestM b r).1 ∧ (digestM b s).2.1 = (rdigestM b r).2.1 ∧ AgreeD (digestM b s).2.2 (rdigestM b r).2.2 := by
  have hbv : (mkNm b).1 = b := mkNm_val hb
  by_cases h0 : r.mode = 0
  · have hd : digestM b s = ((closeM (mkId (sumM b)) (markM (mkId (sumM b)) (mkNm b) s)).1, (closeM (mkId (sumM b)) (markM (mkId (sumM b)) (mkNm b) s)).2, markM (mkId (sumM b)) (mkNm b) s) := by unfold digestM; rw [if_pos (h.mode.trans h0)]
    have hr : rdigestM b r = rcloseM (sumM b) b (rnoteM b r) := by unfold rdigestM; rw [if_pos h0]
    have hv : (mkId (sumM b)).1 = sumM b := mkId_val (sumM_length b)
    have hk : ∀ d' t, Kd (rnoteM b r).rows d' t ↔ Kd r.rows d' t ∨ (d' = (mkId (sumM b)).1 ∧ t = (mkNm b).1) := by
      intro d' t
      rw [hv, hbv]
      unfold rnoteM
      split
      · rename_i hs
        obtain ⟨x, hx⟩ := Option.isSome_iff_exists.1 hs
        exact Kd_same ⟨x, (pfind_mem hx).1, (pfind_mem hx).2, by rw [h.real h0 x (pfind_mem hx).1 (pfind_mem hx).2, pfind_hit hx], pfind_hit hx⟩ d' t
      · exact Kd_snoc rfl d' t
    have hmt : (rnoteM b r).mode = r.mode ∧ (rnoteM b r).tape = r.tape := by unfold rnoteM; split <;> exact ⟨rfl, rfl⟩
    have hmem : ∀ x ∈ (rnoteM b r).rows, x ∈ r.rows ∨ x = (2, zk, [], b, sumM b) := by
      intro x hx
      unfold rnoteM at hx
      split at hx
      · exact .inl hx
      · simpa using hx
    have hm : AgreeD (markM (mkId (sumM b)) (mkNm b) s) (rnoteM b r) := AgreeD.mark h.none h.some h.twice hk (h.mode.trans hmt.1.symm) (h.tape.trans hmt.2.symm)
      (fun x hx => by
        rcases hmem x hx with hx | rfl
        · exact h.small x hx
        · show (sumM b).length ≤ _
          rw [sumM_length]
          simp [maxLen])
      (fun hne => absurd (hmt.1.trans h0) hne)
      (fun _ x hx hx2 => by
        rcases hmem x hx with hx | rfl
        · exact h.real h0 x hx hx2
        · rfl)
    have hc := hm.close (d := mkId (sumM b)) (b := b) ((hk _ _).2 (.inr ⟨rfl, hbv.symm⟩))
    rw [hv] at hc
    rw [hd, hr]
    exact ⟨hc.1, hc.2.1, by rw [hc.2.2]; exact hm⟩
  · have hA : Agree s r := ⟨h.mode, h.tape, h.small, h.ans h0⟩
    have hi := hA.ideal (askD b) 32 (by omega)
    have e4 : (askD b).2.2.2.1 = b := hbv
    rw [e4] at hi
    change outB (idealM (askD b) 32 s).1 = (ridealM 2 zk [] b 32 r).1 ∧ outE (idealM (askD b) 32 s).1 = (ridealM 2 zk [] b 32 r).2.1 ∧ Agree (idealM (askD b) 32 s).2 (ridealM 2 zk [] b 32 r).2.2 at hi
    obtain ⟨h1, h2, h3⟩ := hi
    obtain ⟨k1, k2, k3⟩ := ridealM_kd b r
    obtain ⟨t1, t2, t3⟩ := idealM_same (q := askD b) (n := 32) (s := s)
    have hl := ridealM_32 (q := 2) (k := zk) (lab := []) (inp := b) hok (.inr rfl)
    cases ho : (idealM (askD b) 32 s).1 with
    | none =>
      rw [ho] at h2
      have he : (ridealM 2 zk [] b 32 r).2.1 ≠ 0 := by rw [← h2]; simp [outE]
      have hd : digestM b s = (zeros 32, 60, (idealM (askD b) 32 s).2) := by unfold digestM; rw [if_neg (by rw [h.mode]; exact h0), ho]
      have hr : rdigestM b r = (zeros 32, (ridealM 2 zk [] b 32 r).2) := by unfold rdigestM; rw [if_neg h0, if_neg he]
      rw [hd, hr, t3 ho]
      refine ⟨rfl, h2, ?_⟩
      show AgreeD s (ridealM 2 zk [] b 32 r).2.2
      rw [k2 he]
      exact h
    | some out =>
      rw [ho] at h1 h2
      have he : (ridealM 2 zk [] b 32 r).2.1 = 0 := h2.symm
      have hd : digestM b s = ((closeM (mkId out.1) (markM (mkId out.1) (mkNm b) (idealM (askD b) 32 s).2)).1, (closeM (mkId out.1) (markM (mkId out.1) (mkNm b) (idealM (askD b) 32 s).2)).2, markM (mkId out.1) (mkNm b) (idealM (askD b) 32 s).2) := by unfold digestM; rw [if_neg (by rw [h.mode]; exact h0), ho]
      have hr : rdigestM b r = rcloseM (ridealM 2 zk [] b 32 r).1 b (ridealM 2 zk [] b 32 r).2.2 := by unfold rdigestM; rw [if_neg h0, if_pos he]
      have hov : out.1 = (ridealM 2 zk [] b 32 r).1 := h1
      have hv : (mkId out.1).1 = (ridealM 2 zk [] b 32 r).1 := (mkId_val (by rw [hov]; exact hl he)).trans hov
      have hk : ∀ d' t, Kd (ridealM 2 zk [] b 32 r).2.2.rows d' t ↔ Kd r.rows d' t ∨ (d' = (mkId out.1).1 ∧ t = (mkNm b).1) := by rw [hv, hbv]; exact k1 he
      have hm : AgreeD (markM (mkId out.1) (mkNm b) (idealM (askD b) 32 s).2) (ridealM 2 zk [] b 32 r).2.2 :=
        AgreeD.mark (r := r) (by rw [t1]; exact h.none) (by rw [t1]; exact h.some) (by unfold dblM; rw [t2]; exact h.twice) hk h3.mode h3.tape h3.small (fun _ => h3.ans) (fun hne => absurd (k3.symm.trans hne) h0)
      have hc := hm.close (d := mkId out.1) (b := b) ((hk _ _).2 (.inr ⟨rfl, hbv.symm⟩))
      rw [hv] at hc
      rw [hd, hr]
      exact ⟨hc.1, hc.2.1, by rw [hc.2.2]; exact hm⟩
theorem rcloseM_same (D b : List UInt8) (s : PRs) : (rcloseM D b s).2.2 = s := by unfold rcloseM; split <;> rfl
theorem rnoteM_ok {b : List UInt8} {s : PRs} (h : RsOk s) : RsOk (rnoteM b s) := by
  unfold rnoteM
  split
  · exact h
  · intro x hx
    rcases List.mem_append.1 hx with hx | hx
    · exact h x hx
    · rw [List.mem_singleton] at hx
      subst hx
      intro _
      exact sumM_length b
theorem rdigestM_ok {b : List UInt8} {s : PRs} (h : RsOk s) : RsOk (rdigestM b s).2.2 := by
  have hi := ridealM_ok (q := 2) (k := zk) (lab := []) (inp := b) (n := 32) h (fun _ => rfl)
  unfold rdigestM
  split
  · rw [rcloseM_same]; exact rnoteM_ok h
  · split
    · rw [rcloseM_same]; exact hi
    · exact hi
theorem rdigestM_rows (b : List UInt8) (s : PRs) : (rdigestM b s).2.2.rows.length ≤ s.rows.length + 1 := by
  have hi := ridealM_rows 2 zk [] b 32 s
  unfold rdigestM
  split
  · rw [rcloseM_same]
    unfold rnoteM
    split
    · omega
    · simp
  · split
    · rw [rcloseM_same]; exact hi
    · exact hi
/-- Both ids. -/
theorem AgreeD.eid {s : Su} {r : PRs} (h : AgreeD s r) (e : Env) (hb : (outM e).length ≤ maxLen) (hok : RsOk r) :
    (eidM e s).1 = (reidM e r).1 ∧ (eidM e s).2.1 = (reidM e r).2.1 ∧ (eidM e s).2.2.1 = (reidM e r).2.2.1 ∧ AgreeD (eidM e s).2.2.2 (reidM e r).2.2.2 := by
  obtain ⟨h1, h2, h3⟩ := h.digest (outM e) hb hok
  unfold eidM reidM
  by_cases hm : mayM e = true
  · rw [if_pos hm, if_pos hm, ← h2]
    by_cases he : (digestM (outM e) s).2.1 = 0
    · rw [if_pos he, if_pos he]
      exact ⟨h1, rfl, rfl, h3⟩
    · rw [if_neg he, if_neg he]
      exact ⟨rfl, rfl, rfl, h3⟩
  · rw [if_neg hm, if_neg hm]
    exact ⟨rfl, rfl, rfl, h⟩
theorem eidM_ok {e : Env} {s : Su} (h : SuOk s) : SuOk (eidM e s).2.2.2 := by
  have hi := digestM_ok (b := outM e) h
  unfold eidM
  split
  · split <;> exact hi
  · exact h
theorem eidM_len {e : Env} {s : Su} : (eidM e s).1.length = 32 := by
  have hi := digestM_len (b := outM e) (s := s)
  unfold eidM
  split
  · split
    · exact hi
    · simp [zeros]
  · simp [zeros]
theorem reidM_ok {e : Env} {s : PRs} (h : RsOk s) : RsOk (reidM e s).2.2.2 := by
  have hi := rdigestM_ok (b := outM e) h
  unfold reidM
  split
  · split <;> exact hi
  · exact h
theorem reidM_rows (e : Env) (s : PRs) : (reidM e s).2.2.2.rows.length ≤ s.rows.length + 1 := by
  have hi := rdigestM_rows (outM e) s
  unfold reidM
  split
  · split <;> exact hi
  · exact Nat.le_succ _
theorem outM_len {w : World} {e : Env} {A B : Option Addr} {n c m d : Nat} (he : EnvIs w e A n c B m d) (hn : n ≤ 40) (hm : m ≤ 1000) : (outM e).length ≤ 100000 := by
  unfold outM
  split
  · rename_i hm1
    simp only [mayM, Bool.and_eq_true, decide_eq_true_eq] at hm1
    have h1 := adB_len he (by omega) (by omega)
    have h3 := he.m_eq
    have h2 := nM_ten (n := e.body.length) (by omega)
    rw [putB, List.length_append, List.length_append]
    omega
  · simp
end Go.Proofs.Ytcmgjoamfjijhaa
