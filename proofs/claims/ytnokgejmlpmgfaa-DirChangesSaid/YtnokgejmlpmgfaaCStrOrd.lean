/- Texts in order; plain. -/
import Derived.Test.YtnokgejmlpmgfaaCLinksM
namespace Go.Proofs.Ytnokgejmlpmgfaa
set_option linter.unusedVariables false
set_option linter.unusedSimpArgs false

def leS (a b : List UInt8) : Bool := lessM a b || a == b
theorem lessM_iff : ∀ {a b : List UInt8}, lessM a b = true ↔ a < b
  | [], [] => by
    rw [less_nil2]
    simp
  | [], b :: bs => by
    rw [less_nil]
    simp
  | a :: a1, [] => by
    rw [less_nil2]
    simp
  | a :: a1, b :: b1 => by
    rw [less_cons, List.cons_lt_cons_iff]
    have ih := lessM_iff (a := a1) (b := b1)
    by_cases h1 : a < b
    · simp [h1]
    · rw [if_neg h1]
      by_cases h2 : b < a
      · rw [if_pos h2]
        have h3 : a ≠ b := fun e => by subst e; exact h1 h2
        simp [h1, h3]
      · rw [if_neg h2, ih]
        have h3 : a = b := by
          apply UInt8.toNat_inj.1
          have h4 : ¬ a.toNat < b.toNat := h1
          have h5 : ¬ b.toNat < a.toNat := h2
          omega
        simp [h1, h3]
theorem leS_iff {a b : List UInt8} : leS a b = decide (a ≤ b) := by
  rw [Bool.eq_iff_iff]
  simp only [leS, Bool.or_eq_true, beq_iff_eq, decide_eq_true_eq]
  constructor
  · rintro (h | h)
    · exact List.not_lt.1 fun h2 => by
        have h3 := less_trans h (lessM_iff.2 h2)
        rw [less_irrefl] at h3
        cases h3
    · subst h; exact List.le_refl _
  · intro h
    cases h1 : lessM a b with
    | true => exact .inl rfl
    | false =>
      refine .inr (less_total h1 ?_)
      cases h2 : lessM b a with
      | false => rfl
      | true => exact absurd (lessM_iff.1 h2) (List.not_lt.2 h)
/-- One text more, behind all that are not greater. -/
def insS : List (List UInt8) → List UInt8 → List (List UInt8)
  | [], s => [s]
  | y :: l, s => if leS y s = true then y :: insS l s else s :: y :: l
def sortedS (l : List (List UInt8)) : List (List UInt8) := l.foldl insS []
theorem sortedS_snoc (l : List (List UInt8)) (x : List UInt8) : sortedS (l ++ [x]) = insS (sortedS l) x := by simp [sortedS]
theorem insS_perm : ∀ (l : List (List UInt8)) (s : List UInt8), (insS l s).Perm (s :: l)
  | [], s => List.Perm.refl _
  | y :: l, s => by
    unfold insS
    split
    · exact ((insS_perm l s).cons y).trans (.swap _ _ _)
    · exact .refl _
theorem sortedS_perm (l : List (List UInt8)) : (sortedS l).Perm l := by
  unfold sortedS
  suffices h : ∀ (l a : List (List UInt8)), (l.foldl insS a).Perm (a ++ l) by simpa using h l []
  intro l
  induction l with
  | nil => intro a; simp
  | cons x l ih =>
    intro a
    rw [List.foldl_cons]
    exact (ih _).trans (((insS_perm a x).append_right l).trans (List.perm_middle.symm))
theorem leS_trans {a b c : List UInt8} (h1 : leS a b = true) (h2 : leS b c = true) : leS a c = true := by
  rw [leS_iff, decide_eq_true_eq] at *
  exact List.le_trans h1 h2
theorem leS_total (a b : List UInt8) : leS a b = true ∨ leS b a = true := by
  rw [leS_iff, leS_iff, decide_eq_true_eq, decide_eq_true_eq]
  exact List.le_total a b
theorem insS_sorted : ∀ {l : List (List UInt8)} (s : List UInt8), l.Pairwise (fun a b => leS a b = true) → (insS l s).Pairwise (fun a b => leS a b = true)
  | [], s, _ => by simp [insS]
  | y :: l, s, h => by
    obtain ⟨h1, h2⟩ := List.pairwise_cons.1 h
    unfold insS
    split
    · rename_i hy
      refine List.pairwise_cons.2 ⟨fun z hz => ?_, insS_sorted s h2⟩
      rcases List.mem_cons.1 ((insS_perm l s).mem_iff.1 hz) with rfl | hz
      · exact hy
      · exact h1 z hz
    · rename_i hy
      have hsy : leS s y = true := (leS_total s y).resolve_right hy
      refine List.pairwise_cons.2 ⟨fun z hz => ?_, h⟩
      rcases List.mem_cons.1 hz with rfl | hz
      · exact hsy
      · exact leS_trans hsy (h1 z hz)
theorem sortedS_sorted (l : List (List UInt8)) : (sortedS l).Pairwise (fun a b => leS a b = true) := by
  unfold sortedS
  suffices h : ∀ (l a : List (List UInt8)), a.Pairwise (fun a b => leS a b = true) → (l.foldl insS a).Pairwise (fun a b => leS a b = true) from h l [] List.Pairwise.nil
  intro l
  induction l with
  | nil => intro a h; exact h
  | cons x l ih => intro a h; exact ih _ (insS_sorted x h)
theorem leS_antisymm {a b : List UInt8} (h1 : leS a b = true) (h2 : leS b a = true) : a = b := by
  rw [leS_iff, decide_eq_true_eq] at *
  exact List.le_antisymm h1 h2
theorem sorted_perm_eq : ∀ {a b : List (List UInt8)}, a.Pairwise (fun a b => leS a b = true) → b.Pairwise (fun a b => leS a b = true) → a.Perm b → a = b
  | [], b, _, _, hp => (List.nil_perm.1 hp).symm
  | x :: a, [], _, _, hp => absurd hp.length_eq (by simp)
  | x :: a, y :: b, ha, hb, hp => by
    obtain ⟨h1, h2⟩ := List.pairwise_cons.1 ha
    obtain ⟨h3, h4⟩ := List.pairwise_cons.1 hb
    have hxy : x = y := by
      have hx : x ∈ y :: b := hp.mem_iff.1 List.mem_cons_self
      have hy : y ∈ x :: a := hp.mem_iff.2 List.mem_cons_self
      rcases List.mem_cons.1 hx with e | hx
      · exact e
      · rcases List.mem_cons.1 hy with e | hy
        · exact e.symm
        · exact leS_antisymm (h1 y hy) (h3 x hx)
    subst hxy
    rw [sorted_perm_eq h2 h4 ((List.perm_cons x).1 hp)]
theorem sortS_eq (l : List (List UInt8)) : (l.mergeSort fun x y => decide (x ≤ y)) = sortedS l := by
  have e : (fun x y : List UInt8 => decide (x ≤ y)) = leS := by funext x y; exact leS_iff.symm
  rw [e]
  refine sorted_perm_eq ?_ (sortedS_sorted l) ((List.mergeSort_perm _ _).trans (sortedS_perm l).symm)
  exact List.pairwise_mergeSort (le := leS) (fun a b c => leS_trans) (fun a b => by rcases leS_total a b with h | h <;> simp [h]) l
/-- Where one text more goes. -/
structure PlaceS (l : List (List UInt8)) (x : List UInt8) (k : Nat) : Prop where
  le : k ≤ l.length
  bef : ∀ j (hj : j < l.length), j < k → leS l[j] x = true
theorem insS_at : ∀ {l : List (List UInt8)} {x : List UInt8} {k : Nat}, PlaceS l x k → (∀ h : k < l.length, leS l[k] x = false) → insS l x = l.take k ++ x :: l.drop k
  | [], x, k, hp, _ => by
    have : k = 0 := by have := hp.le; simpa using this
    subst this
    rfl
  | y :: l, x, 0, hp, hn => by
    have h0 := hn (by simp)
    simp only [List.getElem_cons_zero] at h0
    rw [insS, if_neg (by rw [h0]; simp)]
    simp
  | y :: l, x, k + 1, hp, hn => by
    have h0 := hp.bef 0 (by simp) (by omega)
    simp only [List.getElem_cons_zero] at h0
    rw [insS, if_pos h0, insS_at (l := l) (x := x) (k := k) ⟨by have := hp.le; simp at this; omega, fun j hj hjk => (by have h9 := hp.bef (j + 1) (by simp; omega) (by omega); exact h9)⟩ (fun h => (by have h9 := hn (by simp; omega); exact h9))]
    simp
end Go.Proofs.Ytnokgejmlpmgfaa
