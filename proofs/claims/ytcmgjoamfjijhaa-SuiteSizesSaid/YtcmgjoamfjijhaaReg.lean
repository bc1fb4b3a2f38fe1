/- A region that draws its order: what the loads need (G) holds till operation T has come up. Program independent. -/
import Derived.Test.YtcmgjoamfjijhaaOps2
import Derived.StillTail
import Derived.OrdersIn
namespace Go.Proofs.Ytcmgjoamfjijhaa
open Go.RowKit
set_option linter.unusedVariables false

/-- What has come up is closed under 'behind'. -/
structure Clo (md : Region.Mode) (ops : Array Oper) (l : Array Bool) : Prop where
  size : l.size = ops.size
  closed : ∀ j oj, ops[j]? = some oj → l.getD j false = true → ∀ e ∈ oj.after, Region.binds md e = true → l.getD e.on false = true
def reachB (md : Region.Mode) (ops : Array Oper) : Nat → Nat → Nat → Bool
  | 0, _, _ => false
  | f + 1, j, i => match ops[j]? with
    | none => false
    | some oj => oj.after.any fun e => Region.binds md e && (e.on == i || reachB md ops f e.on i)

section
variable {md : Region.Mode} {ops : Array Oper} {l : Array Bool}
theorem Clo.start (md : Region.Mode) (ops : Array Oper) : Clo md ops (Array.replicate ops.size false) :=
  ⟨by simp, fun j oj _ h => by rw [getD_replicate_false] at h; cases h⟩
theorem Clo.set {i : Nat} (h : Clo md ops l) (hi : i ∈ Region.ready md ops l) : Clo md ops (l.setIfInBounds i true) := by
  obtain ⟨_, oi, hoi, hall⟩ := mem_ready.1 hi
  refine ⟨by simp [h.size], fun j oj hj hl e he hb => ?_⟩
  by_cases hij : i = j
  · subst hij
    have : oj = oi := Option.some.inj (hj.symm.trans hoi)
    subst this
    exact getD_set_true (hall e he hb)
  · rw [getD_set_ne false hij] at hl
    exact getD_set_true (h.closed j oj hj hl e he hb)
theorem Clo.reach (h : Clo md ops l) : ∀ (f j i : Nat), reachB md ops f j i = true → l.getD j false = true → l.getD i false = true
  | 0, _, _, hr, _ => by cases hr
  | f + 1, j, i, hr, hl => by
    unfold reachB at hr
    split at hr
    · cases hr
    · rename_i oj hj
      obtain ⟨e, he, hb⟩ := Array.any_eq_true'.1 hr
      simp only [Bool.and_eq_true, Bool.or_eq_true, beq_iff_eq] at hb
      have h1 := h.closed j oj hj hl e he hb.1
      rcases hb.2 with rfl | h2
      · exact h1
      · exact h.reach f _ _ h2 h1
theorem Clo.before (h : Clo md ops l) {f T i : Nat} (hr : reachB md ops f T i = true) (hl : l.getD i true = false) : l.getD T false = false := by
  cases hT : l.getD T false with
  | false => rfl
  | true => have := h.reach f T i hr hT; rw [getD_both hl] at this; cases this
end

/-- An operation number i, run. -/
def wpOpQ (P : Program) (ops : Array Oper) (Q : Exit → Act → World → Prop) (i : Nat) (K : Act → World → Prop) (a : Act) (w : World) : Prop :=
  match ops[i]? with
  | none => K a w
  | some o => if Region.wanted o (yielded ops a.tmps) = true then o.wp P a w K Q else K (a.put o.dst undef) w
section
variable {P : Program} {ops : Array Oper} {Q : Exit → Act → World → Prop} {i : Nat} {K K' : Act → World → Prop} {a : Act} {w : World}
theorem wpOpQ_mono (h : ∀ a w, K a w → K' a w) (hh : wpOpQ P ops Q i K a w) : wpOpQ P ops Q i K' a w := by
  unfold wpOpQ at hh ⊢
  cases ho : ops[i]? with
  | none => simp only [ho] at hh; exact h _ _ hh
  | some o =>
    by_cases hw : Region.wanted o (yielded ops a.tmps) = true
    · simp only [ho, hw, if_true] at hh ⊢
      exact Oper.wp_mono h hh
    · simp only [ho, hw] at hh ⊢
      exact h _ _ hh
theorem wpOp_of_Q (hh : wpOpQ P ops Q i K a w) : wpOp P ops Q i K a w := by
  unfold wpOpQ at hh
  unfold wpOp
  cases ho : ops[i]? with
  | none => simpa [ho] using hh
  | some o =>
    by_cases hw : Region.wanted o (yielded ops a.tmps) = true
    · simp only [ho, hw, if_true] at hh ⊢
      exact .inl hh
    · simp only [ho, hw] at hh ⊢
      exact hh
/-- An operation that defers nothing, in a round. -/
theorem wpIn_of_wp {l n : Nat} {o : Oper} (hd : ∀ c, o.op ≠ .defer c) (h : o.wp P a w K Q) : o.wpIn (Fence.wide.inRound l) n P a w K Q := by
  refine ⟨fun _ _ => trivial, ?_⟩
  rw [Oper.semAt_eq _ _ _ hd]
  unfold Oper.wp at h
  generalize (execOp a.eval o).run P w = r at h ⊢
  cases r with
  | ok x w' =>
    cases x <;> simp only [Oper.upon, Oper.uponIn] at h ⊢ <;> try exact h
    case enter f args =>
      refine ⟨fun e => (by cases e), CallsIn.inRound l (callsIn_wide.2 ?_)⟩
      exact h.mono fun e w'' he => by cases e <;> exact he
    case row row args =>
      refine ⟨fun e => (by cases e), fun c cs _ => ?_⟩
      obtain ⟨v, w'', h1, h2⟩ := h c cs
      exact ⟨v, w'', h1, (StepsIn.of_steps h2).mono fun m _ => fenced_wide P m⟩
    all_goals exact h.elim
  | halt x w' => cases x <;> simp only [Oper.upon, Oper.uponIn] at h ⊢ <;> exact h
def noDefer (ops : Array Oper) : Bool := ops.all fun o => match o.op with | .defer _ => false | _ => true
theorem noDefer_spec (h : noDefer ops = true) {o : Oper} (ho : ops[i]? = some o) : ∀ c, o.op ≠ .defer c := fun c hc => by
  have h1 := Array.all_eq_true_iff_forall_mem.1 h o (Array.mem_of_getElem? ho)
  rw [hc] at h1
  cases h1
theorem wpOpIn_of_Q {l n : Nat} (hd : noDefer ops = true) (hh : wpOpQ P ops Q i K a w) : wpOpIn (Fence.wide.inRound l) n P ops Q i K a w := by
  unfold wpOpQ at hh
  unfold wpOpIn
  cases ho : ops[i]? with
  | none => simpa [ho] using hh
  | some o =>
    by_cases hw : Region.wanted o (yielded ops a.tmps) = true
    · simp only [ho, hw, if_true] at hh ⊢
      exact wpIn_of_wp (noDefer_spec hd ho) hh
    · simp only [ho, hw] at hh ⊢
      exact ⟨fun _ _ => trivial, hh⟩
theorem wpOpQ_step {o : Oper} (ho : ops[i]? = some o) (hw : Region.wanted o (yielded ops a.tmps) = true) (h : o.wp P a w K Q) : wpOpQ P ops Q i K a w := by
  unfold wpOpQ
  simp only [ho, hw, if_true]
  exact h
theorem yields_Q {o : Oper} {v : Value} {S : World → Prop} (hi : ops[i]? = some o) (hy : YieldsIf P ops S o v a) (hS : S w) (h : K (a.put o.dst v) w) : wpOpQ P ops Q i K a w := by
  unfold wpOpQ
  simp only [hi]
  rcases hy with ⟨hw, hv⟩ | ⟨hw, rfl⟩
  · simp only [hw, if_true, Oper.wp, hv w hS, Oper.upon]
    exact h
  · simp only [hw, Bool.false_eq_true, if_false]
    exact h
/-- Operation j, run ahead of one that yields in any case. -/
theorem putQ {j : Nat} {oi oj : Oper} {v : Value} {S : World → Prop} (hj : ops[j]? = some oj) (hap : oi.apart ops oj = true) (hsi : ∀ cs b, oi.op ≠ .select cs b) (hsj : ∀ cs b, oj.op ≠ .select cs b)
    (hQ : ∀ c a w, Q (.panic c) (a.put oi.dst v) w → Q (.panic c) a w) (hy : YieldsIf P ops S oi v a) (h : wpOpQ P ops Q j K (a.put oi.dst v) w) :
    wpOpQ P ops Q j (fun a' w' => YieldsIf P ops S oi v a' ∧ K (a'.put oi.dst v) w') a w := by
  obtain ⟨h1, h2, h3⟩ := Oper.apart_spec hap
  have stays : ∀ (a : Act) (u : Value), YieldsIf P ops S oi v a → YieldsIf P ops S oi v (a.put oj.dst u) := fun a u ha => ha.of_same (execOp_put oi hsi a oj.dst u h3) (wanted_put oi a oj.dst u h3)
  unfold wpOpQ at h ⊢
  simp only [hj] at h ⊢
  rw [wanted_put oj a oi.dst v h1] at h
  by_cases hw : Region.wanted oj (yielded ops a.tmps) = true
  · rw [if_pos hw] at h ⊢
    unfold Oper.wp at h ⊢
    rw [execOp_put oj hsj a oi.dst v h1] at h
    cases hr : (execOp a.eval oj).run P w with
    | halt x w' =>
      rw [hr] at h
      cases x <;> simp only [Oper.upon] at h ⊢
      exact hQ _ _ _ h
    | ok x w' =>
      rw [hr] at h
      cases x <;> simp only [Oper.upon] at h ⊢
      case value u => exact ⟨stays a u hy, by rw [← Act.put_comm a v u h2]; exact h⟩
      case skip => exact ⟨stays a undef hy, by rw [← Act.put_comm a v undef h2]; exact h⟩
      case defer d =>
        refine ⟨stays _ undef (hy.of_same rfl rfl), ?_⟩
        rw [← Act.put_comm _ v undef h2, ← Act.put_defers]
        exact h
      case enter f args =>
        exact Calls.mono h fun e w'' he => by
          cases e with
          | returned u => exact ⟨stays a u hy, by rw [← Act.put_comm a v u h2]; exact he⟩
          | panicked c => exact hQ _ _ _ he
          | outgrown => exact he
      case row row args => exact Rows.mono h fun u w'' he => ⟨stays a u hy, by rw [← Act.put_comm a v u h2]; exact he⟩
  · rw [if_neg hw] at h ⊢
    exact ⟨stays a undef hy, by rw [← Act.put_comm a v undef h2]; exact h⟩
end

section
variable {P : Program} {md : Region.Mode} {ops : Array Oper} {Q : Exit → Act → World → Prop} {T : Nat} {G : World → Prop}
def SJ (T : Nat) (G : World → Prop) (l : Array Bool) (w : World) : Prop := l.getD T false = false → G w
theorem SJ.set {l : Array Bool} {w : World} {i : Nat} (hi : i ≠ T) : SJ T G (l.setIfInBounds i true) w ↔ SJ T G l w := by
  unfold SJ
  rw [getD_set_ne false hi]
def wpAnyJ (P : Program) (md : Region.Mode) (ops : Array Oper) (Q : Exit → Act → World → Prop) (T : Nat) (G : World → Prop) : Nat → Array Bool → Act → World → Prop
  | 0, l, a, w => Region.ready md ops l = [] ∧ Q .normal a w
  | fuel + 1, l, a, w => (Region.ready md ops l = [] → Q .normal a w) ∧
    ∀ i ∈ Region.ready md ops l, wpOpQ P ops Q i (fun a' w' => SJ T G (l.setIfInBounds i true) w' ∧ wpAnyJ P md ops Q T G fuel (l.setIfInBounds i true) a' w') a w
theorem wpAny_of_J : ∀ (fuel : Nat) (l : Array Bool) (a : Act) (w : World), wpAnyJ P md ops Q T G fuel l a w → wpAny P md ops Q fuel l a w
  | 0, _, _, _, h => h
  | fuel + 1, _, _, _, h => ⟨h.1, fun i hi => wpOp_of_Q (wpOpQ_mono (fun a' w' h' => wpAny_of_J fuel _ a' w' h'.2) (h.2 i hi))⟩
theorem wpAnyIn_of_J {n l : Nat} (hd : noDefer ops = true) : ∀ (fuel : Nat) (ls : Array Bool) (a : Act) (w : World), wpAnyJ P md ops Q T G fuel ls a w → wpAnyIn (Fence.wide.inRound l) n P md ops Q fuel ls a w
  | 0, _, _, _, h => h
  | fuel + 1, _, _, _, h => ⟨h.1, fun i hi => wpOpIn_of_Q hd (wpOpQ_mono (fun a' w' h' => wpAnyIn_of_J hd fuel _ a' w' h'.2) (h.2 i hi))⟩

theorem wpAnyJ_first {i : Nat} {oi : Oper} {v : Value} {G' : World → Prop} (hi : ops[i]? = some oi) (hsel : ∀ (j : Nat) (o : Oper) cs b, ops[j]? = some o → o.op ≠ .select cs b)
    (hQ : ∀ c a w, Q (.panic c) (a.put oi.dst v) w → Q (.panic c) a w) (hiT : i ≠ T) (hG : ∀ l w, Clo md ops l → l.getD i true = false → SJ T G l w → G' w) :
    ∀ (fuel : Nat) (l : Array Bool) (a : Act) (w : World),
      (∀ j oj, ops[j]? = some oj → j ≠ i → l.getD j true = false → (∀ e ∈ oj.after, Region.binds md e = true → e.on ≠ i) → oi.apart ops oj = true) →
      Clo md ops l → i ∈ Region.ready md ops l → YieldsIf P ops G' oi v a → SJ T G l w →
      wpAnyJ P md ops Q T G fuel (l.setIfInBounds i true) (a.put oi.dst v) w → wpAnyJ P md ops Q T G (fuel + 1) l a w := by
  intro fuel
  induction fuel with
  | zero =>
    intro l a w _ hc hr hy hS H
    refine ⟨fun h => (by rw [h] at hr; cases hr), fun j hj => ?_⟩
    by_cases hji : j = i
    · subst hji; exact yields_Q hi hy (hG l w hc (mem_ready.1 hr).1 hS) ⟨(SJ.set hiT).2 hS, H⟩
    · have := ready_mono hj hji
      rw [H.1] at this
      cases this
  | succ fuel ih =>
    intro l a w hfree hc hr hy hS H
    refine ⟨fun h => (by rw [h] at hr; cases hr), fun j hj => ?_⟩
    by_cases hji : j = i
    · subst hji; exact yields_Q hi hy (hG l w hc (mem_ready.1 hr).1 hS) ⟨(SJ.set hiT).2 hS, H⟩
    · have h1 := H.2 j (ready_mono hj hji)
      obtain ⟨hjun, oj, hoj, hall⟩ := mem_ready.1 hj
      have hnot : ∀ e ∈ oj.after, Region.binds md e = true → e.on ≠ i := fun e he hb heq => by
        have h1 := hall e he hb
        have h0 := (mem_ready.1 hr).1
        rw [heq] at h1
        rw [getD_both h0] at h1
        cases h1
      have h2 := putQ hoj (hfree j oj hoj hji hjun hnot) (fun cs b => hsel i oi cs b hi) (fun cs b => hsel j oj cs b hoj) hQ hy h1
      have hfree' : ∀ k ok, ops[k]? = some ok → k ≠ i → (l.setIfInBounds j true).getD k true = false →
          (∀ e ∈ ok.after, Region.binds md e = true → e.on ≠ i) → oi.apart ops ok = true := fun k ok hk hki hun hno => by
        refine hfree k ok hk hki ?_ hno
        by_cases hjk : j = k
        · subst hjk; exact hjun
        · rw [getD_set_ne true hjk] at hun; exact hun
      refine wpOpQ_mono (fun a' w' h3 => ?_) h2
      obtain ⟨h3, h4, h5⟩ := h3
      rw [Array.setIfInBounds_comm _ _ (Ne.symm hji)] at h4 h5
      have h6 := (SJ.set (l := l.setIfInBounds j true) hiT).1 h4
      exact ⟨h6, ih (l.setIfInBounds j true) a' w' hfree' (hc.set hj) (ready_mono hr (Ne.symm hji)) h3 h6 h5⟩

/-- An operation that yields alike in whatever world. -/
theorem wpAnyJ_pure (d : Tmp) {i : Nat} {oi : Oper} {v : Value} {fuel : Nat} {l : Array Bool} {a : Act} {w : World} (hi : ops[i]? = some oi) (hd : oi.dst = some d) (hs : Region.noSelect ops = true) (hf : Region.free md ops l i = true)
    (hr : (Region.ready md ops l).contains i = true) (hiT : i ≠ T) (hc : Clo md ops l) (hS : SJ T G l w) (hQ : ∀ c a w, Q (.panic c) (a.put oi.dst v) w → Q (.panic c) a w) (hy : YieldsIf P ops (fun _ => True) oi v a)
    (h : Clo md ops (l.setIfInBounds i true) → SJ T G (l.setIfInBounds i true) w → wpAnyJ P md ops Q T G fuel (l.setIfInBounds i true) (a.put (some d) v) w) : wpAnyJ P md ops Q T G (fuel + 1) l a w :=
  wpAnyJ_first hi (Region.noSelect_spec hs) hQ hiT (fun _ _ _ _ _ => trivial) fuel l a w (Region.free_spec hi hf) hc (by simpa using hr) hy hS (by rw [hd]; exact h (hc.set (by simpa using hr)) ((SJ.set hiT).2 hS))
/-- An operation that yields alike in each world of G. -/
theorem wpAnyJ_load (d : Tmp) {i : Nat} {oi : Oper} {v : Value} {fuel : Nat} {l : Array Bool} {a : Act} {w : World} (hi : ops[i]? = some oi) (hd : oi.dst = some d) (hs : Region.noSelect ops = true) (hf : Region.free md ops l i = true)
    (hr : (Region.ready md ops l).contains i = true) (hrT : reachB md ops ops.size T i = true) (hiT : i ≠ T) (hc : Clo md ops l) (hS : SJ T G l w) (hQ : ∀ c a w, Q (.panic c) (a.put oi.dst v) w → Q (.panic c) a w)
    (hw : Region.wanted oi (yielded ops a.tmps) = true) (hy : ∀ w, G w → Reads P a.eval oi w v)
    (h : Clo md ops (l.setIfInBounds i true) → SJ T G (l.setIfInBounds i true) w → wpAnyJ P md ops Q T G fuel (l.setIfInBounds i true) (a.put (some d) v) w) : wpAnyJ P md ops Q T G (fuel + 1) l a w :=
  wpAnyJ_first (G' := G) hi (Region.noSelect_spec hs) hQ hiT (fun l w hl hu hS => hS (hl.before hrT hu)) fuel l a w (Region.free_spec hi hf) hc (by simpa using hr) (.inl ⟨hw, fun w hG => (hy w hG).2.2⟩) hS (by rw [hd]; exact h (hc.set (by simpa using hr)) ((SJ.set hiT).2 hS))
/-- The one operation that may come up now. -/
theorem wpAnyJ_one {i : Nat} {oi : Oper} {fuel : Nat} {l : Array Bool} {a : Act} {w : World} (hi : ops[i]? = some oi) (hr : Region.ready md ops l = [i]) (hc : Clo md ops l) (hw : Region.wanted oi (yielded ops a.tmps) = true)
    (h : ∀ K : Act → World → Prop, Shut (∀ a' w', SJ T G (l.setIfInBounds i true) w' → (Clo md ops (l.setIfInBounds i true) → SJ T G (l.setIfInBounds i true) w' → wpAnyJ P md ops Q T G fuel (l.setIfInBounds i true) a' w') → K a' w') → oi.wp P a w K Q) : wpAnyJ P md ops Q T G (fuel + 1) l a w := by
  have hc2 := hc.set (i := i) (by rw [hr]; simp)
  refine ⟨fun h0 => (by rw [hr] at h0; cases h0), fun j hj => ?_⟩
  rw [hr] at hj
  obtain rfl : j = i := by simpa using hj
  exact wpOpQ_step hi hw (h _ fun a' w' hS hW => ⟨hS, hW hc2 hS⟩)
theorem wpAnyJ_done {l : Array Bool} {a : Act} {w : World} (hr : Region.ready md ops l = []) (h : Q .normal a w) : ∀ fuel, wpAnyJ P md ops Q T G fuel l a w
  | 0 => ⟨hr, h⟩
  | _ + 1 => ⟨fun _ => h, by rw [hr]; simp⟩
theorem wp_region_J {id : Nat} {a : Act} {w : World} (T : Nat) (G : World → Prop) (hm : P.follows .mixedOrders = true) (hG : G w.drew)
    (h : Clo .any ops (Array.replicate ops.size false) → SJ T G (Array.replicate ops.size false) w.drew → wpAnyJ P .any ops Q T G ops.size (Array.replicate ops.size false) a w.drew) : (Code.region id ops true).wp P Q a w :=
  wp_region_any hm (wpAny_of_J _ _ _ _ (h (Clo.start _ _) (fun _ => hG)))
theorem SJ.past {l : Array Bool} {w : World} (h : l.getD T false = true) : SJ T G l w := fun h0 => by rw [h] at h0; cases h0
/-- The same, where what has come up and what G says go with the goal. -/
def wpAnyK (P : Program) (md : Region.Mode) (ops : Array Oper) (Q : Exit → Act → World → Prop) (T : Nat) (G : World → Prop) (fuel : Nat) (l : Array Bool) (a : Act) (w : World) : Prop := Clo md ops l → SJ T G l w → wpAnyJ P md ops Q T G fuel l a w
theorem wpAnyK_pure (d : Tmp) {i : Nat} {oi : Oper} {v : Value} {fuel : Nat} {l : Array Bool} {a : Act} {w : World} (hi : ops[i]? = some oi) (hd : oi.dst = some d) (hs : Region.noSelect ops = true) (hf : Region.free md ops l i = true)
    (hr : (Region.ready md ops l).contains i = true) (hiT : i ≠ T) (hQ : ∀ c a w, Q (.panic c) (a.put oi.dst v) w → Q (.panic c) a w) (hy : YieldsIf P ops (fun _ => True) oi v a)
    (h : wpAnyK P md ops Q T G fuel (l.setIfInBounds i true) (a.put (some d) v) w) : wpAnyK P md ops Q T G (fuel + 1) l a w := fun hc hS => wpAnyJ_pure d hi hd hs hf hr hiT hc hS hQ hy h
theorem wpAnyK_load (d : Tmp) {i : Nat} {oi : Oper} {v : Value} {fuel : Nat} {l : Array Bool} {a : Act} {w : World} (hi : ops[i]? = some oi) (hd : oi.dst = some d) (hs : Region.noSelect ops = true) (hf : Region.free md ops l i = true)
    (hr : (Region.ready md ops l).contains i = true) (hrT : reachB md ops ops.size T i = true ∨ ops.size ≤ T) (hiT : i ≠ T) (hQ : ∀ c a w, Q (.panic c) (a.put oi.dst v) w → Q (.panic c) a w)
    (hw : Region.wanted oi (yielded ops a.tmps) = true) (hy : ∀ w, G w → Reads P a.eval oi w v)
    (h : wpAnyK P md ops Q T G fuel (l.setIfInBounds i true) (a.put (some d) v) w) : wpAnyK P md ops Q T G (fuel + 1) l a w := fun hc hS => by
  rcases hrT with hrT | hrT
  · exact wpAnyJ_load d hi hd hs hf hr hrT hiT hc hS hQ hw hy h
  · exact wpAnyJ_first (G' := G) hi (Region.noSelect_spec hs) hQ hiT (fun l w hl hu hS => hS (by
      have := hl.size
      simp [Array.getElem?_eq_none (show l.size ≤ T by omega)])) fuel l a w (Region.free_spec hi hf) hc (by simpa using hr) (.inl ⟨hw, fun w hG => (hy w hG).2.2⟩) hS (by rw [hd]; exact h (hc.set (by simpa using hr)) ((SJ.set hiT).2 hS))
/-- One whose guard says no. -/
theorem wpAnyK_not (d : Tmp) {i : Nat} {oi : Oper} {fuel : Nat} {l : Array Bool} {a : Act} {w : World} (hi : ops[i]? = some oi) (hd : oi.dst = some d) (hs : Region.noSelect ops = true) (hf : Region.free md ops l i = true)
    (hr : (Region.ready md ops l).contains i = true) (hiT : i ≠ T) (hQ : ∀ c a w, Q (.panic c) (a.put oi.dst undef) w → Q (.panic c) a w) (hw : Region.wanted oi (yielded ops a.tmps) = false)
    (h : wpAnyK P md ops Q T G fuel (l.setIfInBounds i true) (a.put (some d) undef) w) : wpAnyK P md ops Q T G (fuel + 1) l a w := wpAnyK_pure d hi hd hs hf hr hiT hQ (.inr ⟨hw, rfl⟩) h
theorem wpAnyK_one {i : Nat} {oi : Oper} {fuel : Nat} {l : Array Bool} {a : Act} {w : World} (hi : ops[i]? = some oi) (hr : Region.ready md ops l = [i]) (hw : Region.wanted oi (yielded ops a.tmps) = true)
    (h : ∀ K : Act → World → Prop, Shut (∀ a' w', SJ T G (l.setIfInBounds i true) w' → wpAnyK P md ops Q T G fuel (l.setIfInBounds i true) a' w' → K a' w') → oi.wp P a w K Q) : wpAnyK P md ops Q T G (fuel + 1) l a w := fun hc hS => wpAnyJ_one hi hr hc hw h
theorem wpAnyK_done {fuel : Nat} {l : Array Bool} {a : Act} {w : World} (hr : Region.ready md ops l = []) (h : Q .normal a w) : wpAnyK P md ops Q T G fuel l a w := fun _ _ => wpAnyJ_done hr h fuel
theorem wp_region_K {id : Nat} {a : Act} {w : World} (T : Nat) (G : World → Prop) (hm : P.follows .mixedOrders = true) (hG : G w.drew)
    (h : wpAnyK P .any ops Q T G ops.size (Array.replicate ops.size false) a w.drew) : (Code.region id ops true).wp P Q a w := wp_region_J T G hm hG h
theorem wi_region_K {n l : Nat} {id : Nat} {a : Act} {w : World} (T : Nat) (G : World → Prop) (hm : P.follows .mixedOrders = true) (hd : noDefer ops = true) (hG : G w.drew)
    (h : wpAnyK P .any ops Q T G ops.size (Array.replicate ops.size false) a w.drew) : (Code.region id ops true).wpIn (Fence.wide.inRound l) n P Q a w :=
  wpIn_region_any hm (wpAnyIn_of_J hd _ _ _ _ (h (Clo.start _ _) (fun _ => hG)))
end
end Go.Proofs.Ytcmgjoamfjijhaa
