/- What is left of a sorted list where equals that stand side by side count once; plain. -/
import Derived.Test.YtionnlckjjojnaaCLinksM
namespace Go.Proofs.Ytionnlckjjojnaa
open Go.RowKit
set_option linter.unusedVariables false

/-- Of the first n. -/
def compN (l : List Id) : Nat → List Id
  | 0 => []
  | n + 1 => match l[n]? with
    | none => compN l n
    | some x => if 0 < n ∧ l[n - 1]? = some x then compN l n else compN l n ++ [x]
theorem compN_zero (l : List Id) : compN l 0 = [] := rfl
theorem compN_same {l : List Id} {n : Nat} (hn : n + 1 < l.length) (h : l[n + 1] = l[n]) : compN l (n + 2) = compN l (n + 1) := by
  rw [compN, List.getElem?_eq_getElem hn]
  simp only
  rw [if_pos ⟨by omega, by rw [Nat.add_sub_cancel, List.getElem?_eq_getElem (by omega), h]⟩]
theorem compN_new {l : List Id} {n : Nat} (hn : n + 1 < l.length) (h : l[n + 1] ≠ l[n]) : compN l (n + 2) = compN l (n + 1) ++ [l[n + 1]] := by
  rw [compN, List.getElem?_eq_getElem hn]
  simp only
  rw [if_neg]
  rintro ⟨_, h2⟩
  rw [Nat.add_sub_cancel, List.getElem?_eq_getElem (by omega)] at h2
  exact h (Option.some.inj h2).symm
theorem compN_one {l : List Id} (hn : 0 < l.length) : compN l 1 = [l[0]] := by
  rw [compN, List.getElem?_eq_getElem hn]
  simp [compN]
theorem compN_le (l : List Id) : ∀ n, (compN l n).length ≤ n
  | 0 => by simp [compN]
  | n + 1 => by
    have := compN_le l n
    rw [compN]
    split
    · omega
    · split
      · omega
      · simp; omega
def compM (l : List Id) : List Id := compN l l.length
/-- As long as none is met twice. -/
theorem compN_take {l : List Id} : ∀ {n : Nat}, n ≤ l.length → (∀ j, 0 < j → j < n → l[j]? ≠ l[j - 1]?) → compN l n = l.take n
  | 0, _, _ => by simp [compN]
  | 1, h, _ => by
    rw [compN_one (by omega)]
    cases l with
    | nil => simp at h
    | cons x l => rfl
  | n + 2, h, hd => by
    rw [compN_new (by omega), compN_take (by omega) (fun j h1 h2 => hd j h1 (by omega)), List.take_succ_eq_append_getElem (by omega : n + 1 < l.length)]
    intro e
    have := hd (n + 1) (by omega) (by omega)
    rw [Nat.add_sub_cancel, List.getElem?_eq_getElem (by omega), List.getElem?_eq_getElem (by omega), e] at this
    exact this rfl
structure CompOk (l : List Id) (n : Nat) : Prop where
  rises : Rises (compN l n)
  mem : ∀ z, z ∈ compN l n ↔ z ∈ l.take n
  last : ∀ z ∈ compN l n, ∀ h : 0 < n, ∀ hn : n ≤ l.length, z = l[n - 1] ∨ lessI z l[n - 1] = true
theorem comp_ok {l : List Id} (hs : l.Pairwise fun x y => lessI y x = false) : ∀ n, n ≤ l.length → CompOk l n
  | 0, _ => ⟨by simp [compN, Rises], by simp [compN], fun z hz => by simp [compN] at hz⟩
  | 1, h => by
    have e := compN_one (l := l) (by omega)
    refine ⟨by rw [e]; simp [Rises], fun z => ?_, fun z hz h1 h2 => ?_⟩
    · rw [e]
      cases l with
      | nil => simp at h
      | cons x l => simp
    · rw [e] at hz
      left
      simpa using hz
  | n + 2, h => by
    have ih := comp_ok hs (n + 1) (by omega)
    have hle : lessI l[n + 1] l[n] = false := List.pairwise_iff_getElem.1 hs n (n + 1) (by omega) (by omega) (by omega)
    have ht : l.take (n + 2) = l.take (n + 1) ++ [l[n + 1]] := List.take_succ_eq_append_getElem (by omega : n + 1 < l.length)
    by_cases hx : l[n + 1] = l[n]
    · have e := compN_same (by omega) hx
      refine ⟨by rw [e]; exact ih.rises, fun z => ?_, fun z hz h1 h2 => ?_⟩
      · rw [e, ih.mem, ht, List.mem_append, List.mem_singleton]
        constructor
        · exact .inl
        · rintro (h3 | rfl)
          · exact h3
          · rw [hx]
            exact List.mem_take_iff_getElem.2 ⟨n, by omega, rfl⟩
      · rw [e] at hz
        have := ih.last z hz (by omega) (by omega)
        simp only [Nat.add_sub_cancel] at this
        have e2 : l[n + 2 - 1] = l[n] := hx
        rw [e2]
        exact this
    · have hlt : lessI l[n] l[n + 1] = true := by
        cases hh : lessI l[n] l[n + 1] with
        | true => rfl
        | false => exact absurd (lessI_total hle hh) hx
      have e := compN_new (by omega) hx
      have hall : ∀ z ∈ compN l (n + 1), lessI z l[n + 1] = true := fun z hz => by
        have := ih.last z hz (by omega) (by omega)
        simp only [Nat.add_sub_cancel] at this
        rcases this with h3 | h3
        · rw [h3]; exact hlt
        · exact lessI_trans h3 hlt
      refine ⟨?_, fun z => ?_, fun z hz h1 h2 => ?_⟩
      · rw [e]
        refine List.pairwise_append.2 ⟨ih.rises, by simp, fun a ha b hb => ?_⟩
        rw [List.mem_singleton] at hb
        subst hb
        exact hall a ha
      · rw [e, ht, List.mem_append, List.mem_append, ih.mem]
      · rw [e] at hz
        rcases List.mem_append.1 hz with hz | hz
        · exact .inr (hall z hz)
        · rw [List.mem_singleton] at hz
          exact .inl hz
theorem comp_links {l s : List Id} (hs : s.Pairwise fun x y => lessI y x = false) (hm : ∀ z, z ∈ s ↔ z ∈ l) : compM s = linksM l := by
  have h := comp_ok hs s.length (Nat.le_refl _)
  exact links_unique h.rises (fun z => by rw [compM, h.mem, List.take_length, hm])
end Go.Proofs.Ytionnlckjjojnaa
