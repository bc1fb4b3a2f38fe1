/- Objects and their links: what is reached, what is kept, their order; plain. -/
import Derived.Test.YtionnlckjjojnaaCLinksM
namespace Go.Proofs.Ytionnlckjjojnaa
set_option linter.unusedVariables false
set_option linter.unusedSimpArgs false

structure Ob where
  id : Id
  links : List Id
  size : Int
/-- Where an id stands first. -/
def fstIx : List Id → Id → Option Nat
  | [], _ => none
  | y :: l, x => if y = x then some 0 else (fstIx l x).map (· + 1)
theorem fstIx_none : ∀ {l : List Id} {x : Id}, fstIx l x = none ↔ x ∉ l
  | [], x => by simp [fstIx]
  | y :: l, x => by
    unfold fstIx
    by_cases h : y = x
    · simp [h]
    · rw [if_neg h, Option.map_eq_none_iff, fstIx_none, List.mem_cons, not_or]
      exact ⟨fun h2 => ⟨fun e => h e.symm, h2⟩, fun h2 => h2.2⟩
theorem fstIx_at : ∀ {l : List Id} {x : Id} {k : Nat} (h : k < l.length), l[k] = x → (∀ j (hj : j < k), l[j]'(Nat.lt_trans hj h) ≠ x) → fstIx l x = some k
  | [], _, _, h, _, _ => by simp at h
  | y :: l, x, 0, h, hx, _ => by simp at hx; simp [fstIx, hx]
  | y :: l, x, k + 1, h, hx, hno => by
    have h0 : y ≠ x := hno 0 (by omega)
    have h2 : k < l.length := by simpa using h
    rw [fstIx, if_neg h0, fstIx_at h2 (by simpa using hx) (fun j hj => by simpa using hno (j + 1) (by omega))]
    rfl
theorem fstIx_some : ∀ {l : List Id} {x : Id} {k : Nat}, fstIx l x = some k → ∃ h : k < l.length, l[k] = x ∧ ∀ j (hj : j < k), l[j]'(Nat.lt_trans hj h) ≠ x
  | [], _, _, h => by simp [fstIx] at h
  | y :: l, x, k, h => by
    unfold fstIx at h
    by_cases hy : y = x
    · rw [if_pos hy] at h
      obtain rfl : 0 = k := Option.some.inj h
      exact ⟨by simp, by simpa using hy, fun j hj => by omega⟩
    · rw [if_neg hy] at h
      obtain ⟨i, hi, rfl⟩ := Option.map_eq_some_iff.1 h
      obtain ⟨h1, h2, h3⟩ := fstIx_some hi
      refine ⟨by simpa using h1, by simpa using h2, fun j hj => ?_⟩
      cases j with
      | zero => simpa using hy
      | succ j => simpa using h3 j (by omega)
theorem fstIx_isSome {l : List Id} {x : Id} : (fstIx l x).isSome = true ↔ x ∈ l := by
  cases h : fstIx l x with
  | none => simpa using fstIx_none.1 h
  | some k =>
    obtain ⟨h1, h2, _⟩ := fstIx_some h
    simpa using h2 ▸ List.getElem_mem h1
/-- The places of a list from k on. -/
def ixFrom (l : List Id) (k : Nat) (x : Id) : Option Nat := (fstIx (l.drop k) x).map (· + k)
theorem ixFrom_zero (l : List Id) (x : Id) : ixFrom l 0 x = fstIx l x := by
  unfold ixFrom
  rw [List.drop_zero]
  cases fstIx l x <;> rfl
theorem ixFrom_end (l : List Id) (x : Id) : ixFrom l l.length x = none := by
  unfold ixFrom
  rw [List.drop_length]
  rfl
theorem ixFrom_step {l : List Id} {k : Nat} (h : k < l.length) (x : Id) : ixFrom l k x = if x = l[k] then some k else ixFrom l (k + 1) x := by
  unfold ixFrom
  rw [List.drop_eq_getElem_cons h, fstIx]
  by_cases hx : x = l[k]
  · rw [if_pos hx.symm, if_pos hx]; simp
  · rw [if_neg (fun e => hx e.symm), if_neg hx, Option.map_map]
    congr 1
    funext a
    simp only [Function.comp]
    omega

theorem nodup_sub_len {α : Type} [BEq α] [LawfulBEq α] : ∀ {a b : List α}, a.Nodup → (∀ x ∈ a, x ∈ b) → a.length ≤ b.length
  | [], _, _, _ => by simp
  | x :: a, b, hn, hs => by
    have hn2 := List.nodup_cons.1 hn
    have hx : x ∈ b := hs x (by simp)
    have h := nodup_sub_len (a := a) (b := b.erase x) hn2.2 (fun y hy => (List.mem_erase_of_ne (fun e => hn2.1 (by rw [← e]; exact hy))).2 (hs y (by simp [hy])))
    rw [List.length_erase_of_mem hx] at h
    have := List.length_pos_of_mem hx
    simp only [List.length_cons]
    omega

/-! ### The walk -/
def linksAt (os : List Ob) (i : Nat) : List Id := match os[i]? with | some o => o.links | none => []
abbrev idsOf (os : List Ob) : List Id := os.map (·.id)
abbrev WS := List (Nat × Id) × List Id
def stepM (os : List Ob) (d : Nat) (s : WS) (x : Id) : WS :=
  match fstIx (idsOf os) x with
  | none => s
  | some i => if x ∈ s.1.map (·.2) then s else (s.1 ++ [(d, x)], s.2 ++ linksAt os i)
def walkF (os : List Ob) : Nat → Nat → List (Nat × Id) → List Id → List (Nat × Id)
  | 0, _, out, _ => out
  | k + 1, d, out, l => if l = [] then out else walkF os k (d + 1) (l.foldl (stepM os d) (out, [])).1 (l.foldl (stepM os d) (out, [])).2
def restM (os : List Ob) (k d : Nat) (s : WS) (l : List Id) : List (Nat × Id) := walkF os k (d + 1) (l.foldl (stepM os d) s).1 (l.foldl (stepM os d) s).2
def walkM (os : List Ob) (roots : List Id) : List (Nat × Id) := walkF os (os.length + 1) 0 [] roots
def reachM (os : List Ob) (roots : List Id) : List Id := (walkM os roots).map (·.2)
section
variable {os : List Ob} {d k : Nat} {s : WS} {x : Id} {l : List Id}
theorem step_no (h : fstIx (idsOf os) x = none) : stepM os d s x = s := by simp [stepM, h]
theorem step_met {i : Nat} (h : fstIx (idsOf os) x = some i) (hm : x ∈ s.1.map (·.2)) : stepM os d s x = s := by
  unfold stepM
  rw [h]
  exact if_pos hm
theorem step_new {i : Nat} (h : fstIx (idsOf os) x = some i) (hm : x ∉ s.1.map (·.2)) : stepM os d s x = (s.1 ++ [(d, x)], s.2 ++ linksAt os i) := by
  unfold stepM
  rw [h]
  exact if_neg hm
theorem step_cases (os : List Ob) (d : Nat) (s : WS) (x : Id) : stepM os d s x = s ∨ ∃ i, fstIx (idsOf os) x = some i ∧ x ∉ s.1.map (·.2) ∧ stepM os d s x = (s.1 ++ [(d, x)], s.2 ++ linksAt os i) := by
  cases h : fstIx (idsOf os) x with
  | none => exact .inl (step_no h)
  | some i =>
    by_cases hm : x ∈ s.1.map (·.2)
    · exact .inl (step_met h hm)
    · exact .inr ⟨i, rfl, hm, step_new h hm⟩
theorem step_mono (os : List Ob) (d : Nat) (s : WS) (x : Id) : s.1 <+: (stepM os d s x).1 := by
  rcases step_cases os d s x with h | ⟨i, _, _, h⟩
  · rw [h]; exact List.prefix_refl _
  · rw [h]; exact List.prefix_append _ _
theorem fold_mono (os : List Ob) (d : Nat) : ∀ (l : List Id) (s : WS), s.1 <+: (l.foldl (stepM os d) s).1
  | [], s => List.prefix_refl _
  | x :: l, s => (step_mono os d s x).trans (fold_mono os d l _)
theorem walkF_mono (os : List Ob) : ∀ (k d : Nat) (out : List (Nat × Id)) (l : List Id), out <+: walkF os k d out l
  | 0, _, _, _ => List.prefix_refl _
  | k + 1, d, out, l => by
    unfold walkF
    by_cases h : l = []
    · rw [if_pos h]; exact List.prefix_refl _
    · rw [if_neg h]; exact (fold_mono os d l (out, [])).trans (walkF_mono os k (d + 1) _ _)
theorem rest_mono (os : List Ob) (k d : Nat) (s : WS) (l : List Id) : s.1 <+: restM os k d s l := (fold_mono os d l s).trans (walkF_mono os k _ _ _)
theorem rest_cons : restM os k d s (x :: l) = restM os k d (stepM os d s x) l := rfl
theorem rest_nil : restM os k d s [] = walkF os k (d + 1) s.1 s.2 := rfl
theorem walkF_nil (os : List Ob) (k d : Nat) (out : List (Nat × Id)) : walkF os k d out [] = out := by
  cases k with
  | zero => rfl
  | succ k => simp [walkF]
theorem walkF_rest {out : List (Nat × Id)} (h : l ≠ []) : walkF os (k + 1) d out l = restM os k d (out, []) l := by
  rw [walkF, if_neg h]; rfl
/-- What holds between levels. -/
structure WInv (os : List Ob) (k d : Nat) (out : List (Nat × Id)) (l : List Id) : Prop where
  nd : (out.map (·.2)).Nodup
  sub : ∀ y ∈ out.map (·.2), y ∈ idsOf os
  far : l ≠ [] → d ≤ out.length
  sum : k + d = os.length + 1
/-- What holds within a level. -/
structure SInv (os : List Ob) (k d : Nat) (s : WS) : Prop where
  nd : (s.1.map (·.2)).Nodup
  sub : ∀ y ∈ s.1.map (·.2), y ∈ idsOf os
  far : d ≤ s.1.length
  grew : s.2 ≠ [] → d + 1 ≤ s.1.length
  sum : k + (d + 1) = os.length + 1
theorem inv_len {out : List (Nat × Id)} (nd : (out.map (·.2)).Nodup) (sub : ∀ y ∈ out.map (·.2), y ∈ idsOf os) : out.length ≤ os.length := by
  have := nodup_sub_len nd sub
  simpa using this
theorem SInv.step (h : SInv os k d s) (x : Id) : SInv os k d (stepM os d s x) := by
  rcases step_cases os d s x with e | ⟨i, hi, hm, e⟩
  · rw [e]; exact h
  · rw [e]
    have hx : x ∈ idsOf os := by
      obtain ⟨h1, h2, _⟩ := fstIx_some hi
      exact h2 ▸ List.getElem_mem h1
    have hf := h.far
    refine ⟨?_, fun y hy => ?_, ?_, fun _ => ?_, h.sum⟩
    · simp only [List.map_append, List.map_cons, List.map_nil]
      refine List.nodup_append.2 ⟨h.nd, by simp, ?_⟩
      rintro a ha b hb rfl
      rw [List.mem_singleton] at hb
      exact hm (hb ▸ ha)
    · simp only [List.map_append, List.map_cons, List.map_nil, List.mem_append, List.mem_singleton] at hy
      rcases hy with hy | rfl
      · exact h.sub y hy
      · exact hx
    · simp only [List.length_append, List.length_cons, List.length_nil]; omega
    · simp only [List.length_append, List.length_cons, List.length_nil]; omega
theorem WInv.init (os : List Ob) (roots : List Id) : WInv os (os.length + 1) 0 [] roots := ⟨by simp, by simp, by simp, rfl⟩
/-- A level is left: no level follows the last. -/
theorem WInv.level {out : List (Nat × Id)} (h : WInv os k d out l) (hl : l ≠ []) : ∃ k', k = k' + 1 ∧ SInv os k' d (out, []) := by
  have h1 := h.far hl
  have h2 := inv_len h.nd h.sub
  have h3 := h.sum
  exact ⟨k - 1, by omega, h.nd, h.sub, h1, fun e => absurd rfl e, by omega⟩
theorem SInv.done (h : SInv os k d s) : WInv os k (d + 1) s.1 s.2 := ⟨h.nd, h.sub, h.grew, h.sum⟩
theorem SInv.fold' : ∀ (l : List Id) {s : WS}, SInv os k d s → SInv os k d (l.foldl (stepM os d) s)
  | [], _, h => h
  | x :: l, _, h => SInv.fold' l (h.step x)
theorem SInv.fold (h : SInv os k d s) (l : List Id) : SInv os k d (l.foldl (stepM os d) s) := SInv.fold' l h
/-- How much a level asks for. -/
theorem step_len {M : Nat} (hM : ∀ o ∈ os, o.links.length ≤ M) (h : s.2.length ≤ M * s.1.length) : (stepM os d s x).2.length ≤ M * (stepM os d s x).1.length := by
  rcases step_cases os d s x with e | ⟨i, hi, hm, e⟩
  · rw [e]; exact h
  · rw [e]
    have : (linksAt os i).length ≤ M := by
      unfold linksAt
      cases ho : os[i]? with
      | none => simp
      | some o => exact hM o (List.mem_of_getElem? ho)
    simp only [List.length_append, List.length_cons, List.length_nil]
    rw [Nat.mul_add]
    omega
end
theorem walk_sub : ∀ {os : List Ob} {k d : Nat} {out : List (Nat × Id)} {l : List Id}, WInv os k d out l → (∀ y ∈ (walkF os k d out l).map (·.2), y ∈ idsOf os) ∧ ((walkF os k d out l).map (·.2)).Nodup
  | os, 0, d, out, l, h => ⟨h.sub, h.nd⟩
  | os, k + 1, d, out, l, h => by
    by_cases hl : l = []
    · rw [walkF, if_pos hl]; exact ⟨h.sub, h.nd⟩
    · obtain ⟨k', e, hs⟩ := h.level hl
      obtain rfl : k = k' := by omega
      rw [walkF, if_neg hl]
      exact walk_sub (hs.fold l).done
theorem reach_in {os : List Ob} {roots : List Id} {y : Id} (h : y ∈ reachM os roots) : y ∈ idsOf os := (walk_sub (WInv.init os roots)).1 y h
theorem walk_len (os : List Ob) (roots : List Id) : (walkM os roots).length ≤ os.length := by
  have h := walk_sub (WInv.init os roots)
  exact inv_len h.2 h.1

/-! ### What is reached is closed -/
/-- All that is asked for by what was met is met, or is to come, or is not there. -/
def Closed (os : List Ob) (out : List (Nat × Id)) (l : List Id) : Prop := ∀ y ∈ out.map (·.2), ∀ i, fstIx (idsOf os) y = some i → ∀ z ∈ linksAt os i, z ∈ idsOf os → z ∈ out.map (·.2) ∨ z ∈ l
theorem closed_fold {os : List Ob} {d : Nat} : ∀ (l : List Id) (s : WS), Closed os s.1 (l ++ s.2) → Closed os (l.foldl (stepM os d) s).1 (l.foldl (stepM os d) s).2 ∧ ∀ z ∈ l, z ∈ idsOf os → z ∈ (l.foldl (stepM os d) s).1.map (·.2)
  | [], s, h => ⟨h, by simp⟩
  | x :: l, s, h => by
    have hx : x ∈ idsOf os → x ∈ (stepM os d s x).1.map (·.2) := fun hx => by
      rcases step_cases os d s x with e | ⟨i, hi, hm, e⟩
      · cases hf : fstIx (idsOf os) x with
        | none => exact absurd hx (fstIx_none.1 hf)
        | some i =>
          by_cases hm : x ∈ s.1.map (·.2)
          · rw [e]; exact hm
          · rw [step_new hf hm]; simp
      · rw [e]; simp
    have hmono : ∀ z, z ∈ s.1.map (·.2) → z ∈ (stepM os d s x).1.map (·.2) := fun z hz => by
      obtain ⟨t, ht⟩ := step_mono os d s x
      rw [← ht, List.map_append]
      exact List.mem_append_left _ hz
    have h2 : Closed os (stepM os d s x).1 (l ++ (stepM os d s x).2) := by
      intro y hy i hi z hz hzo
      have old : y ∈ s.1.map (·.2) → (∀ z, z ∈ s.2 → z ∈ (stepM os d s x).2) → z ∈ (stepM os d s x).1.map (·.2) ∨ z ∈ l ++ (stepM os d s x).2 := fun hy h3 => by
        rcases h y hy i hi z hz hzo with h4 | h4
        · exact .inl (hmono z h4)
        · rw [List.cons_append, List.mem_cons, List.mem_append] at h4
          rcases h4 with rfl | h4 | h4
          · exact .inl (hx hzo)
          · exact .inr (List.mem_append_left _ h4)
          · exact .inr (List.mem_append_right _ (h3 z h4))
      rcases step_cases os d s x with e | ⟨j, hj, hm, e⟩
      · rw [e] at hy
        exact old hy (fun z hz => by rw [e]; exact hz)
      · rw [e] at hy
        simp only [List.map_append, List.map_cons, List.map_nil, List.mem_append, List.mem_singleton] at hy
        rcases hy with hy | rfl
        · exact old hy (fun z hz => by rw [e]; exact List.mem_append_left _ hz)
        · rw [hi] at hj
          cases hj
          right
          rw [e]
          exact List.mem_append_right _ (List.mem_append_right _ hz)
    obtain ⟨h3, h4⟩ := closed_fold l _ h2
    refine ⟨h3, fun z hz hzo => ?_⟩
    rcases List.mem_cons.1 hz with rfl | hz
    · obtain ⟨t, ht⟩ := fold_mono os d l (stepM os d s z)
      rw [List.foldl_cons, ← ht, List.map_append]
      exact List.mem_append_left _ (hx hzo)
    · exact h4 z hz hzo
theorem closed_walk : ∀ {os : List Ob} {k d : Nat} {out : List (Nat × Id)} {l : List Id}, WInv os k d out l → Closed os out l → Closed os (walkF os k d out l) [] ∧ ∀ z ∈ l, z ∈ idsOf os → z ∈ (walkF os k d out l).map (·.2)
  | os, 0, d, out, l, h, hc => by
    by_cases hl : l = []
    · subst hl; exact ⟨hc, by simp⟩
    · obtain ⟨k', e, _⟩ := h.level hl
      omega
  | os, k + 1, d, out, l, h, hc => by
    by_cases hl : l = []
    · subst hl
      rw [walkF_nil]
      exact ⟨hc, by simp⟩
    · obtain ⟨k', e, hs⟩ := h.level hl
      obtain rfl : k = k' := by omega
      rw [walkF, if_neg hl]
      obtain ⟨h1, h2⟩ := closed_fold (d := d) l (out, []) (by simpa using hc)
      have h3 := closed_walk (hs.fold l).done h1
      refine ⟨h3.1, fun z hz hzo => ?_⟩
      obtain ⟨t, ht⟩ := walkF_mono os k (d + 1) (l.foldl (stepM os d) (out, [])).1 (l.foldl (stepM os d) (out, [])).2
      rw [← ht, List.map_append]
      exact List.mem_append_left _ (h2 z hz hzo)
theorem reach_root {os : List Ob} {roots : List Id} {z : Id} (hz : z ∈ roots) (ho : z ∈ idsOf os) : z ∈ reachM os roots :=
  (closed_walk (WInv.init os roots) (fun y hy => by simp at hy)).2 z hz ho
theorem reach_link {os : List Ob} {roots : List Id} {y z : Id} (hy : y ∈ reachM os roots) {i : Nat} (hi : fstIx (idsOf os) y = some i) (hz : z ∈ linksAt os i) (ho : z ∈ idsOf os) : z ∈ reachM os roots := by
  rcases (closed_walk (WInv.init os roots) (fun y hy => by simp at hy)).1 y hy i hi z hz ho with h | h
  · exact h
  · cases h

/-! ### What is kept -/
def keptM (os : List Ob) (roots : List Id) : List Ob := os.filter fun o => decide (o.id ∈ reachM os roots)
def goneM (os : List Ob) (roots : List Id) : List Id := (os.filter fun o => !decide (o.id ∈ reachM os roots)).map (·.id)
theorem kept_next {os : List Ob} {k : Nat} (h : k < os.length) (p : Ob → Bool) : (os.take (k + 1)).filter p = if p os[k] then (os.take k).filter p ++ [os[k]] else (os.take k).filter p := by
  rw [List.take_succ_eq_append_getElem h, List.filter_append, List.filter_cons, List.filter_nil]
  by_cases hp : p os[k] = true
  · rw [if_pos hp, if_pos hp]
  · rw [if_neg hp, if_neg hp, List.append_nil]

/-! ### The order -/
def freeM (os : List Ob) (out : List Nat) (i : Nat) : Bool := (linksAt os i).all fun x => !(fstIx (idsOf os) x).isSome || out.any fun j => decide ((idsOf os)[j]? = some x)
def nextM (os : List Ob) (out : List Nat) : Option Nat := (List.range os.length).find? fun i => !out.contains i && freeM os out i
def ordF (os : List Ob) : Nat → List Nat → Option (List Nat)
  | 0, out => some out
  | k + 1, out => match nextM os out with
    | none => none
    | some i => ordF os k (out ++ [i])
def ordM (os : List Ob) : Option (List Nat) := ordF os os.length []
def pickM (os : List Ob) (out : List Nat) : List Ob := out.filterMap fun j => os[j]?
def lefts (os : List Ob) (out : List Nat) : List Nat := (List.range os.length).filter fun i => !out.contains i
theorem find_at {α : Type} {p : α → Bool} : ∀ {l : List α} {k : Nat} (h : k < l.length), p l[k] = true → (∀ j (hj : j < k), p (l[j]'(Nat.lt_trans hj h)) = false) → l.find? p = some l[k]
  | [], _, h, _, _ => by simp at h
  | x :: l, 0, h, hx, _ => by simp at hx; simp [List.find?_cons, hx]
  | x :: l, k + 1, h, hx, hno => by
    have h0 : p x = false := hno 0 (by omega)
    have h2 : k < l.length := by simpa using h
    rw [List.find?_cons, h0]
    exact find_at h2 (by simpa using hx) (fun j hj => by simpa using hno (j + 1) (by omega))
theorem find_not {α : Type} {p : α → Bool} {l : List α} (h : ∀ j (hj : j < l.length), p l[j] = false) : l.find? p = none := List.find?_eq_none.2 fun x hx => by
  obtain ⟨j, hj, rfl⟩ := List.getElem_of_mem hx
  simp [h j hj]
theorem next_at {os : List Ob} {out : List Nat} {i : Nat} (h : i < os.length) (hi : (!out.contains i && freeM os out i) = true) (hno : ∀ j, j < i → (!out.contains j && freeM os out j) = false) : nextM os out = some i := by
  have := find_at (p := fun i => !out.contains i && freeM os out i) (l := List.range os.length) (k := i) (by simpa using h) (by simpa using hi) (fun j hj => by simpa using hno j hj)
  simpa [nextM] using this
theorem next_none {os : List Ob} {out : List Nat} (hno : ∀ j, j < os.length → (!out.contains j && freeM os out j) = false) : nextM os out = none :=
  find_not fun j hj => by
    have h2 : j < os.length := by simpa using hj
    simpa using hno j h2
theorem next_lefts (os : List Ob) (out : List Nat) : nextM os out = (lefts os out).find? fun i => freeM os out i := by
  unfold nextM lefts
  rw [List.find?_filter]
  congr 1
  funext a
  cases (!out.contains a) <;> cases freeM os out a <;> rfl
theorem next_left_at {os : List Ob} {out : List Nat} {k : Nat} (h : k < (lefts os out).length) (hi : freeM os out (lefts os out)[k] = true) (hno : ∀ j (hj : j < k), freeM os out ((lefts os out)[j]'(Nat.lt_trans hj h)) = false) : nextM os out = some (lefts os out)[k] := by
  rw [next_lefts]
  exact find_at (p := fun i => freeM os out i) h hi hno
theorem next_left_none {os : List Ob} {out : List Nat} (hno : ∀ j (hj : j < (lefts os out).length), freeM os out (lefts os out)[j] = false) : nextM os out = none := by
  rw [next_lefts]
  exact find_not hno
theorem next_lt {os : List Ob} {out : List Nat} {i : Nat} (h : nextM os out = some i) : i < os.length ∧ i ∉ out := by
  have h1 := List.mem_of_find?_eq_some h
  have h2 := List.find?_some h
  simp at h1 h2
  exact ⟨h1, h2.1⟩
theorem lefts_nodup (os : List Ob) (out : List Nat) : (lefts os out).Nodup := List.nodup_range.sublist List.filter_sublist
theorem lefts_lt {os : List Ob} {out : List Nat} {i : Nat} (h : i ∈ lefts os out) : i < os.length := by
  have := (List.mem_filter.1 h).1
  simpa using this
theorem filter_ne {l : List Nat} (hn : l.Nodup) {k : Nat} (h : k < l.length) : l.filter (fun i => !decide (i = l[k])) = l.take k ++ l.drop (k + 1) := by
  induction l generalizing k with
  | nil => simp at h
  | cons x l ih =>
    have hn2 := List.nodup_cons.1 hn
    cases k with
    | zero =>
      simp only [List.getElem_cons_zero, List.filter_cons, decide_true, Bool.not_true, Bool.false_eq_true, if_false, List.take_zero, List.nil_append, Nat.zero_add, List.drop_succ_cons, List.drop_zero]
      exact List.filter_eq_self.2 fun a ha => by
        simp only [Bool.not_eq_true', decide_eq_false_iff_not]
        exact fun e => hn2.1 (e ▸ ha)
    | succ k =>
      have h2 : k < l.length := by simpa using h
      have hx : x ≠ l[k] := fun e => hn2.1 (e ▸ List.getElem_mem h2)
      simp only [List.getElem_cons_succ, List.filter_cons, hx, decide_false, Bool.not_false, if_true, List.take_succ_cons, List.cons_append, List.drop_succ_cons]
      rw [ih hn2.2 h2]
theorem lefts_next {os : List Ob} {out : List Nat} {k : Nat} (h : k < (lefts os out).length) : lefts os (out ++ [(lefts os out)[k]]) = (lefts os out).take k ++ (lefts os out).drop (k + 1) := by
  rw [← filter_ne (lefts_nodup os out) h]
  generalize (lefts os out)[k] = x
  unfold lefts
  rw [List.filter_filter]
  apply List.filter_congr
  intro i _
  simp only [List.contains_eq_mem, List.mem_append, List.mem_singleton]
  by_cases h1 : i ∈ out <;> by_cases h2 : i = x <;> simp [h1, h2]
theorem lefts_nil (os : List Ob) : lefts os [] = List.range os.length := List.filter_eq_self.2 fun a _ => by simp
/-- What holds while objects are placed. -/
structure OInv (os : List Ob) (k : Nat) (out : List Nat) : Prop where
  nd : out.Nodup
  lt : ∀ i ∈ out, i < os.length
  sum : k + out.length = os.length
  rest : ordF os k out = ordM os
theorem OInv.init (os : List Ob) : OInv os os.length [] := ⟨by simp, by simp, by simp, rfl⟩
theorem OInv.next {os : List Ob} {k : Nat} {out : List Nat} (h : OInv os (k + 1) out) {i : Nat} (hi : nextM os out = some i) : OInv os k (out ++ [i]) := by
  obtain ⟨h1, h2⟩ := next_lt hi
  refine ⟨List.nodup_append.2 ⟨h.nd, by simp, ?_⟩, fun j hj => ?_, ?_, ?_⟩
  · rintro a ha b hb rfl
    rw [List.mem_singleton] at hb
    exact h2 (hb ▸ ha)
  · rcases List.mem_append.1 hj with hj | hj
    · exact h.lt j hj
    · rw [List.mem_singleton.1 hj]; exact h1
  · have := h.sum
    simp only [List.length_append, List.length_cons, List.length_nil]
    omega
  · have := h.rest
    rw [ordF, hi] at this
    exact this
theorem OInv.stuck {os : List Ob} {k : Nat} {out : List Nat} (h : OInv os (k + 1) out) (hi : nextM os out = none) : ordM os = none := by
  have := h.rest
  rw [ordF, hi] at this
  exact this.symm
theorem OInv.end_ {os : List Ob} {out : List Nat} (h : OInv os 0 out) : ordM os = some out := h.rest.symm
theorem filter_split {α : Type} (p : α → Bool) : ∀ l : List α, l.length = (l.filter p).length + (l.filter fun x => !p x).length
  | [] => rfl
  | x :: l => by
    have := filter_split p l
    by_cases h : p x = true
    · simp only [List.filter_cons, h, if_true, Bool.not_true, Bool.false_eq_true, if_false, List.length_cons]; omega
    · have h2 : p x = false := by simpa using h
      simp only [List.filter_cons, h2, Bool.not_false, if_true, Bool.false_eq_true, if_false, List.length_cons]; omega
theorem lefts_len {os : List Ob} : ∀ {k : Nat} {out : List Nat}, OInv os k out → (lefts os out).length = k := by
  intro k out h
  have h1 : (lefts os out).length + ((List.range os.length).filter fun i => out.contains i).length = os.length := by
    have := filter_split (fun i => out.contains i) (List.range os.length)
    rw [List.length_range] at this
    unfold lefts
    omega
  have h2 : ((List.range os.length).filter fun i => out.contains i).length = out.length := by
    apply Nat.le_antisymm
    · exact nodup_sub_len (List.nodup_range.sublist List.filter_sublist) (fun x hx => by simpa using (List.mem_filter.1 hx).2)
    · exact nodup_sub_len h.nd (fun x hx => List.mem_filter.2 ⟨by simpa using h.lt x hx, by simpa using hx⟩)
  have := h.sum
  omega
theorem pick_snoc (os : List Ob) (out : List Nat) {i : Nat} (h : i < os.length) : pickM os (out ++ [i]) = pickM os out ++ [os[i]] := by
  unfold pickM
  rw [List.filterMap_append]
  simp [h]
theorem pick_len {os : List Ob} {out : List Nat} (h : ∀ i ∈ out, i < os.length) : (pickM os out).length = out.length := by
  unfold pickM
  induction out with
  | nil => rfl
  | cons i out ih =>
    have hi := h i (by simp)
    simp [List.filterMap_cons, hi, ih (fun j hj => h j (by simp [hj]))]
/-! ### The whole against its parts -/
theorem gone_mem {os : List Ob} {roots : List Id} {z : Id} : z ∈ linksM (goneM os roots) ↔ z ∈ idsOf os ∧ z ∉ reachM os roots := by
  rw [linksM_mem, goneM, List.mem_map]
  constructor
  · rintro ⟨o, ho, rfl⟩
    have := List.mem_filter.1 ho
    exact ⟨List.mem_map_of_mem this.1, by simpa using this.2⟩
  · rintro ⟨h1, h2⟩
    obtain ⟨o, ho, rfl⟩ := List.mem_map.1 h1
    exact ⟨o, List.mem_filter.2 ⟨ho, by simpa using h2⟩, rfl⟩
theorem count_gone (os : List Ob) (roots : List Id) : (os.filter fun o => decide (o.id ∈ linksM (goneM os roots))).length + (keptM os roots).length = os.length := by
  have h := filter_split (fun o => decide (o.id ∈ reachM os roots)) os
  have e : (os.filter fun o => decide (o.id ∈ linksM (goneM os roots))) = os.filter fun o => !decide (o.id ∈ reachM os roots) := by
    apply List.filter_congr
    intro o ho
    have h2 : o.id ∈ idsOf os := List.mem_map_of_mem ho
    by_cases hr : o.id ∈ reachM os roots
    · rw [decide_eq_false (fun h => (gone_mem.1 h).2 hr), decide_eq_true hr]; rfl
    · rw [decide_eq_true (gone_mem.2 ⟨h2, hr⟩), decide_eq_false hr]; rfl
  rw [e, h]
  unfold keptM
  omega
theorem gone_root {os : List Ob} {roots : List Id} {z : Id} (h : z ∈ linksM (goneM os roots)) : z ∉ roots := fun hr => by
  obtain ⟨h1, h2⟩ := gone_mem.1 h
  exact h2 (reach_root hr h1)
/-- The first kept object with an id is the first with it. -/
theorem kept_first {os : List Ob} {roots : List Id} {i : Nat} (h : i < (keptM os roots).length) (hf : ∀ j (hj : j < i), ((keptM os roots)[j]'(Nat.lt_trans hj h)).id ≠ (keptM os roots)[i].id) :
    ∃ k, fstIx (idsOf os) (keptM os roots)[i].id = some k ∧ linksAt os k = (keptM os roots)[i].links ∧ (keptM os roots)[i].id ∈ reachM os roots := by
  obtain ⟨o, ho⟩ : ∃ o, (keptM os roots)[i] = o := ⟨_, rfl⟩
  rw [ho] at hf ⊢
  have hm : o ∈ keptM os roots := ho ▸ List.getElem_mem h
  have hr : o.id ∈ reachM os roots := by simpa using (List.mem_filter.1 hm).2
  have hfind : (keptM os roots).find? (fun p => decide (p.id = o.id)) = some o := by
    have := find_at (p := fun p : Ob => decide (p.id = o.id)) h (by rw [ho]; simp) (fun j hj => by simpa using hf j hj)
    rw [ho] at this
    exact this
  have hfind2 : os.find? (fun p => decide (p.id = o.id)) = some o := by
    rw [keptM, List.find?_filter] at hfind
    rw [← hfind]
    congr 1
    funext p
    by_cases e : p.id = o.id
    · simp [e, hr]
    · simp [e]
  obtain ⟨_, xs, ys, e1, e2⟩ := List.find?_eq_some_iff_append.1 hfind2
  refine ⟨xs.length, ?_, ?_, hr⟩
  · have hl : xs.length < (idsOf os).length := by rw [e1]; simp
    refine fstIx_at hl (by simp [e1]) (fun j hj => ?_)
    have h3 := e2 (xs[j]'(by simpa using hj)) (List.getElem_mem _)
    simp only [e1, List.map_append, List.getElem_map]
    rw [List.getElem_append_left (by simpa using hj)]
    simpa using h3
  · unfold linksAt
    simp [e1]
theorem kept_links {os : List Ob} {roots : List Id} {i : Nat} (h : i < (keptM os roots).length) (hf : ∀ j (hj : j < i), ((keptM os roots)[j]'(Nat.lt_trans hj h)).id ≠ (keptM os roots)[i].id) {z : Id} (hz : z ∈ linksM (goneM os roots)) : z ∉ (keptM os roots)[i].links := fun hl => by
  obtain ⟨k, h1, h2, h3⟩ := kept_first h hf
  obtain ⟨h4, h5⟩ := gone_mem.1 hz
  exact h5 (reach_link h3 h1 (h2 ▸ hl) h4)
end Go.Proofs.Ytionnlckjjojnaa
