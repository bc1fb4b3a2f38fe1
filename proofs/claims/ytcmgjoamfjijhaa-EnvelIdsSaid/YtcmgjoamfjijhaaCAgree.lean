/- The program's suite and the reference's answer alike. -/
import Derived.Test.YtcmgjoamfjijhaaCRtBlind
namespace Go.Proofs.Ytcmgjoamfjijhaa
open Go.RowKit Go.Maps
set_option linter.unusedVariables false
set_option linter.unusedSimpArgs false

structure Agree (s : Su) (r : PRs) : Prop where
  mode : s.mode = r.mode
  tape : s.tape = r.tape
  small : ∀ x ∈ r.rows, x.2.2.2.2.length ≤ maxLen
  ans : ∀ q : Ask, mget s.ans q = (pfind r.rows (q.1.1 + 1) q.2.1 q.2.2.1.1 q.2.2.2.1).map fun x => mkNm x.2.2.2.2
theorem Agree.new (m : Nat) (T : List UInt8) : Agree (newSu m T) ⟨m, T, []⟩ := ⟨rfl, rfl, (by simp), fun q => rfl⟩
theorem phit_self (q : Ask) (out : List UInt8) : phit (q.1.1 + 1) q.2.1 q.2.2.1.1 q.2.2.2.1 (q.1.1 + 1, q.2.1, q.2.2.1.1, q.2.2.2.1, out) = true := by
  unfold phit
  simp
theorem phit_other {q q' : Ask} (h : q' ≠ q) (out : List UInt8) : phit (q'.1.1 + 1) q'.2.1 q'.2.2.1.1 q'.2.2.2.1 (q.1.1 + 1, q.2.1, q.2.2.1.1, q.2.2.2.1, out) = false := by
  unfold phit
  simp only [decide_eq_false_iff_not]
  rintro ⟨e1, e2, e3, e4⟩
  refine h (Prod.ext (Subtype.ext (by omega)) (Prod.ext e2.symm (Prod.ext (Subtype.ext e3.symm) (Subtype.ext e4.symm))))
theorem Agree.ideal {s : Su} {r : PRs} (h : Agree s r) (q : Ask) (n : Nat) (hn : n ≤ 1000000) :
    outB (idealM q n s).1 = (ridealM (q.1.1 + 1) q.2.1 q.2.2.1.1 q.2.2.2.1 n r).1 ∧ outE (idealM q n s).1 = (ridealM (q.1.1 + 1) q.2.1 q.2.2.1.1 q.2.2.2.1 n r).2.1 ∧ Agree (idealM q n s).2 (ridealM (q.1.1 + 1) q.2.1 q.2.2.1.1 q.2.2.2.1 n r).2.2 := by
  have ha := h.ans q
  unfold idealM ridealM
  cases hp : pfind r.rows (q.1.1 + 1) q.2.1 q.2.2.1.1 q.2.2.2.1 with
  | some x =>
    rw [hp] at ha
    rw [ha]
    exact ⟨mkNm_val (h.small x (pfind_mem hp).1), rfl, h⟩
  | none =>
    rw [hp] at ha
    rw [ha]
    simp only [Option.map_none, h.tape]
    by_cases hl : n ≤ r.tape.length
    · rw [if_pos hl, if_pos hl]
      have htl : (r.tape.take n).length ≤ maxLen := by rw [List.length_take]; simp [maxLen]; omega
      refine ⟨mkNm_val htl, rfl, ⟨h.mode, rfl, fun x hx => ?_, fun q' => ?_⟩⟩
      · rcases List.mem_append.1 hx with hx | hx
        · exact h.small x hx
        · rw [List.mem_singleton] at hx
          subst hx
          exact htl
      · show mget (mset s.ans q (mkNm (r.tape.take n))) q' = _
        rw [mget_set]
        show _ = (List.find? _ (r.rows ++ [_])).map _
        rw [List.find?_append]
        by_cases he : q' = q
        · subst he
          unfold pfind at hp
          rw [hp, if_pos rfl, List.find?_cons_of_pos (phit_self _ _)]
          rfl
        · rw [if_neg he, h.ans q', List.find?_cons_of_neg (by rw [phit_other he]; simp)]
          unfold pfind
          simp
    · rw [if_neg hl, if_neg hl]
      exact ⟨rfl, rfl, h⟩
theorem Agree.prf {s : Su} {r : PRs} (h : Agree s r) (k : Id) (lab : UInt8) (b : List UInt8) (hb : b.length ≤ maxLen) :
    (prfM k lab b s).1 = (rprfM k lab b r).1 ∧ (prfM k lab b s).2.1 = (rprfM k lab b r).2.1 ∧ Agree (prfM k lab b s).2.2 (rprfM k lab b r).2.2 := by
  unfold prfM rprfM
  rw [h.mode]
  by_cases h0 : r.mode = 0
  · rw [if_pos h0, if_pos h0]
    exact ⟨rfl, rfl, h⟩
  · rw [if_neg h0, if_neg h0]
    have hi := h.ideal (askP k lab b) 32 (by omega)
    have e1 : (askP k lab b).2.2.1.1 = [lab] := mkNm_val (by simp [maxLen])
    have e2 : (askP k lab b).2.2.2.1 = b := mkNm_val hb
    have e3 : (askP k lab b).1.1 + 1 = 1 := rfl
    have e4 : (askP k lab b).2.1 = k := rfl
    rw [e1, e2, e3, e4] at hi
    obtain ⟨h1, h2, h3⟩ := hi
    cases ho : (idealM (askP k lab b) 32 s).1 with
    | none =>
      rw [ho] at h1 h2
      rw [if_neg (by rw [← h2]; simp [outE])]
      exact ⟨rfl, h2, h3⟩
    | some out =>
      rw [ho] at h1 h2
      rw [if_pos (by rw [← h2]; rfl)]
      exact ⟨h1, h2, h3⟩
/-- What was answered stays answered. -/
theorem idealM_keep {s : Su} {q q' : Ask} {n : Nat} {o : Nm} (h : mget s.ans q = some o) : mget (idealM q' n s).2.ans q = some o := by
  unfold idealM
  cases hg : mget s.ans q' with
  | some x => exact h
  | none =>
    simp only
    split
    · show mget (mset s.ans q' _) q = _
      rw [mget_set, if_neg (by rintro rfl; rw [h] at hg; cases hg)]
      exact h
    · exact h
theorem idealM_has {s : Su} {q : Ask} {n : Nat} {o : Nm} (h : (idealM q n s).1 = some o) : mget (idealM q n s).2.ans q = some o := by
  revert h
  unfold idealM
  cases hg : mget s.ans q with
  | some x => intro h; rw [hg]; exact h
  | none =>
    simp only
    split
    · intro h
      show mget (mset s.ans q _) q = _
      rw [mget_set, if_pos rfl]
      exact h
    · intro h; cases h
def Has (s : Su) (k : Id) (lab : UInt8) (b x : List UInt8) : Prop := (s.mode = 0 ∧ x = macM k.1 (lab :: b)) ∨ (s.mode ≠ 0 ∧ ∃ o, mget s.ans (askP k lab b) = some o ∧ o.1 = x)
theorem idealM_md (q : Ask) (n : Nat) (s : Su) : (idealM q n s).2.mode = s.mode := by
  unfold idealM
  split
  · rfl
  · split <;> rfl
theorem prfM_mode (k : Id) (lab : UInt8) (b : List UInt8) (s : Su) : (prfM k lab b s).2.2.mode = s.mode := by
  have := idealM_md (askP k lab b) 32 s
  unfold prfM
  split
  · rfl
  · split <;> exact this
theorem prfM_has {k : Id} {lab : UInt8} {b : List UInt8} {s : Su} (h : (prfM k lab b s).2.1 = 0) : Has (prfM k lab b s).2.2 k lab b (prfM k lab b s).1 := by
  unfold Has
  rw [prfM_mode]
  revert h
  unfold prfM
  by_cases h0 : s.mode = 0
  · rw [if_pos h0]
    intro _
    exact .inl ⟨h0, rfl⟩
  · rw [if_neg h0]
    cases ho : (idealM (askP k lab b) 32 s).1 with
    | none => intro h; cases h
    | some out => intro _; exact .inr ⟨h0, out, idealM_has ho, rfl⟩
theorem Has.keep {s : Su} {k : Id} {lab : UInt8} {b x : List UInt8} (h : Has s k lab b x) (k' : Id) (lab' : UInt8) (b' : List UInt8) : Has (prfM k' lab' b' s).2.2 k lab b x := by
  unfold Has
  rw [prfM_mode]
  rcases h with h | ⟨h0, o, ho, hx⟩
  · exact .inl h
  · refine .inr ⟨h0, o, ?_, hx⟩
    have := idealM_keep (q' := askP k' lab' b') (n := 32) ho
    unfold prfM
    rw [if_neg h0]
    split <;> exact this
theorem Has.prf {s : Su} {k : Id} {lab : UInt8} {b x : List UInt8} (h : Has s k lab b x) : (prfM k lab b s).1 = x ∧ (prfM k lab b s).2.1 = 0 := by
  unfold prfM
  rcases h with ⟨h0, rfl⟩ | ⟨h0, o, ho, rfl⟩
  · rw [if_pos h0]
    exact ⟨rfl, rfl⟩
  · rw [if_neg h0]
    have : (idealM (askP k lab b) 32 s).1 = some o := by unfold idealM; rw [ho]
    rw [this]
    exact ⟨rfl, rfl⟩
theorem ridealM_rows (q : Nat) (k : Id) (lab inp : List UInt8) (n : Nat) (s : PRs) : (ridealM q k lab inp n s).2.2.rows.length ≤ s.rows.length + 1 := by
  unfold ridealM
  split
  · simp
  · split
    · simp
    · simp
theorem rprfM_rows (k : Id) (lab : UInt8) (b : List UInt8) (s : PRs) : (rprfM k lab b s).2.2.rows.length ≤ s.rows.length + 1 := by
  have := ridealM_rows 1 k [lab] b 32 s
  unfold rprfM
  split
  · simp
  · split <;> exact this
theorem RSu.pr_rows (s : RSu) : s.rows.length = s.pr.rows.length := by simp [RSu.pr]
/-- The last bit of a number. -/
theorem and1 (x : Int) : bits .and .i64 x 1 = 0 ∨ bits .and .i64 x 1 = 1 := by
  have h1 : ∀ v : BitVec 64, (v &&& 1#64).toNat = v.toNat % 2 := fun v => by
    rw [BitVec.toNat_and]
    exact Nat.and_one_is_mod _
  have h2 : bits .and .i64 x 1 = IntKind.i64.wrap ((BitVec.ofInt 64 x &&& 1#64).toNat : Int) := rfl
  rw [h2, h1]
  have h3 : (BitVec.ofInt 64 x).toNat % 2 = 0 ∨ (BitVec.ofInt 64 x).toNat % 2 = 1 := by omega
  rcases h3 with h3 | h3
  · left; rw [h3]; decide
  · right; rw [h3]; decide
end Go.Proofs.Ytcmgjoamfjijhaa
