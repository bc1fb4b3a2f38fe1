/- Entries put in, taken out, found; plain. -/
import Derived.Test.YtnokgejmlpmgfaaCEnEq
import Derived.Test.YtnokgejmlpmgfaaCDirPlain
namespace Go.Proofs.Ytnokgejmlpmgfaa
open Go.RowKit
set_option linter.unusedVariables false
set_option linter.unusedSimpArgs false

def keepE (l : List En) (e : En) : List En := l.filter fun x => !(x.name == e.name) && !(x.blind.1 == e.blind.1)
def withoutM (l : List En) (n : List UInt8) : List En := l.filter fun x => !(x.name == n)
def atE (o : List En) (e : En) : Nat := (o.takeWhile fun x => lessI x.blind e.blind).length
def withM (l : List En) (e : En) : List En := (keepE l e).take (atE (keepE l e) e) ++ [e] ++ (keepE l e).drop (atE (keepE l e) e)
theorem keepE_next {l : List En} {k : Nat} {x e : En} (hk : k < l.length) (hx : l[k] = x) : keepE (l.take (k + 1)) e = if (!(x.name == e.name) && !(x.blind.1 == e.blind.1)) = true then keepE (l.take k) e ++ [x] else keepE (l.take k) e := by
  unfold keepE
  rw [List.take_succ_eq_append_getElem hk, hx, List.filter_append, List.filter_cons]
  split <;> simp
theorem withoutM_next {l : List En} {k : Nat} {x : En} {n : List UInt8} (hk : k < l.length) (hx : l[k] = x) : withoutM (l.take (k + 1)) n = if (!(x.name == n)) = true then withoutM (l.take k) n ++ [x] else withoutM (l.take k) n := by
  unfold withoutM
  rw [List.take_succ_eq_append_getElem hk, hx, List.filter_append, List.filter_cons]
  split <;> simp
theorem atE_le (o : List En) (e : En) : atE o e ≤ o.length := (List.takeWhile_sublist _).length_le
theorem atE_eq : ∀ {o : List En} {e : En} {k : Nat}, k ≤ o.length → (∀ j (hj : j < o.length), j < k → lessI o[j].blind e.blind = true) → (∀ h : k < o.length, lessI o[k].blind e.blind = false) → k = atE o e
  | [], e, k, hk, _, _ => by simp at hk; simp [atE, hk]
  | x :: o, e, 0, hk, h1, h2 => by
    have h3 := h2 (by simp)
    simp only [List.getElem_cons_zero] at h3
    simp [atE, List.takeWhile_cons, h3]
  | x :: o, e, k + 1, hk, h1, h2 => by
    have h3 := h1 0 (by simp) (by omega)
    simp only [List.getElem_cons_zero] at h3
    have h4 := atE_eq (o := o) (e := e) (k := k) (by simp at hk; omega) (fun j hj hjk => by
      have := h1 (j + 1) (by simp; omega) (by omega)
      simpa using this) (fun h => by
      have := h2 (by simp; omega)
      simpa using this)
    simp only [atE, List.takeWhile_cons, h3, if_true, List.length_cons]
    rw [h4]
    rfl
theorem insE_list {l : List En} {i : Nat} {e : En} (hi : i ≤ l.length) : (l.flatMap enK).take (i * 100) ++ enK e ++ (l.flatMap enK).drop (i * 100) = (l.take i ++ [e] ++ l.drop i).flatMap enK := by
  have h1 : ((l.take i).flatMap enK).length = i * 100 := by rw [length_flatMap enK_length, List.length_take, Nat.min_eq_left hi]
  conv => lhs; rw [← List.take_append_drop i l]
  rw [List.flatMap_append, List.take_left' h1, List.drop_left' h1]
  simp
theorem withM_length (l : List En) (e : En) : (withM l e).length = (keepE l e).length + 1 := by
  have := atE_le (keepE l e) e
  simp only [withM, List.length_append, List.length_take, List.length_drop, List.length_cons, List.length_nil]
  omega
theorem keepE_length (l : List En) (e : En) : (keepE l e).length ≤ l.length := List.length_filter_le _ _
theorem withoutM_length (l : List En) (n : List UInt8) : (withoutM l n).length ≤ l.length := List.length_filter_le _ _
/-- Entries in order, of unlike names. -/
def Ordered (l : List En) : Prop := l.Pairwise fun a b => lessI a.blind b.blind = true ∧ a.name ≠ b.name
theorem ordered_get {l : List En} (h : Ordered l) {i j : Nat} (hij : i < j) (hj : j < l.length) : lessI (l[i]'(by omega)).blind l[j].blind = true ∧ (l[i]'(by omega)).name ≠ l[j].name := List.pairwise_iff_getElem.1 h i j (by omega) hj hij
theorem rises_chain {l : List En} (hc : ∀ j (hj : j + 1 < l.length), lessI (l[j]'(by omega)).blind l[j + 1].blind = true) : ∀ (d i : Nat) (hi : i + d + 1 < l.length), lessI (l[i]'(by omega)).blind l[i + d + 1].blind = true
  | 0, i, hi => hc i hi
  | d + 1, i, hi => lessI_trans (rises_chain hc d i (by omega)) (hc (i + d + 1) hi)
theorem dirM_iff (l : List En) : dirM l = true ↔ l.length ≤ 500 ∧ (∀ e ∈ l, oneM e = true) ∧ Ordered l := by
  constructor
  · intro h
    have h1 := dirM_spec h
    refine ⟨h1.1, h1.2, ?_⟩
    simp only [dirM, Bool.and_eq_true, decide_eq_true_eq] at h
    have hk : ∀ k, k < l.length → okM l k = true := fun k hk => List.all_eq_true.1 h.2 k (List.mem_range.2 hk)
    have hc : ∀ j (hj : j + 1 < l.length), lessI (l[j]'(by omega)).blind l[j + 1].blind = true ∧ !((l.take (j + 1)).any fun x => x.name == l[j + 1].name) := fun j hj => by
      have h2 := hk (j + 1) hj
      rw [okM_succ hj rfl rfl] at h2
      simp only [Bool.and_eq_true] at h2
      exact ⟨h2.1.2, h2.2⟩
    refine List.pairwise_iff_getElem.2 fun i j hi hj hij => ⟨?_, fun hn => ?_⟩
    · have h3 := rises_chain (fun j hj => (hc j hj).1) (j - i - 1) i (by omega)
      simpa only [show i + (j - i - 1) + 1 = j by omega] using h3
    · obtain ⟨m, rfl⟩ : ∃ m, j = m + 1 := ⟨j - 1, by omega⟩
      have h4 := (hc m hj).2
      have h5 : ((l.take (m + 1)).any fun x => x.name == l[m + 1].name) = true := List.any_eq_true.2 ⟨l[i], List.mem_take_iff_getElem.2 ⟨i, by omega, rfl⟩, by simp [hn]⟩
      rw [h5] at h4
      cases h4
  · rintro ⟨h1, h2, h3⟩
    refine dirM_yes h1 fun k hk => ?_
    have ho := h2 l[k] (List.getElem_mem hk)
    cases k with
    | zero => rw [okM_zero hk rfl, ho]
    | succ j =>
      rw [okM_succ hk rfl rfl, ho, (ordered_get h3 (Nat.lt_succ_self j) hk).1]
      have : ((l.take (j + 1)).any fun x => x.name == l[j + 1].name) = false := List.any_eq_false.2 fun x hx => by
        obtain ⟨i, hi, rfl⟩ := List.mem_take_iff_getElem.1 hx
        have := (ordered_get h3 (i := i) (j := j + 1) (by omega) hk).2
        simpa using this
      rw [this]
      rfl
theorem dirM_without {l : List En} (h : dirM l = true) (n : List UInt8) : dirM (withoutM l n) = true := by
  obtain ⟨h1, h2, h3⟩ := (dirM_iff l).1 h
  exact (dirM_iff _).2 ⟨Nat.le_trans (withoutM_length l n) h1, fun e he => h2 e ((List.mem_filter.1 he).1), h3.sublist List.filter_sublist⟩
theorem keepE_mem {l : List En} {e x : En} (h : x ∈ keepE l e) : x ∈ l ∧ x.name ≠ e.name ∧ x.blind ≠ e.blind := by
  have h1 := List.mem_filter.1 h
  simp only [Bool.and_eq_true, Bool.not_eq_true', beq_eq_false_iff_ne] at h1
  exact ⟨h1.1, h1.2.1, fun e => h1.2.2 (by rw [e])⟩
theorem atE_cons (x : En) (o : List En) (e : En) : atE (x :: o) e = if lessI x.blind e.blind = true then atE o e + 1 else 0 := by
  unfold atE
  rw [List.takeWhile_cons]
  split <;> simp
theorem atE_take : ∀ {o : List En} {e x : En}, x ∈ o.take (atE o e) → lessI x.blind e.blind = true
  | [], e, x, h => by simp at h
  | y :: o, e, x, h => by
    rw [atE_cons] at h
    split at h
    · rename_i hy
      rw [List.take_succ_cons] at h
      rcases List.mem_cons.1 h with rfl | h
      · exact hy
      · exact atE_take h
    · simp at h
theorem atE_head : ∀ {o : List En} {e x : En}, o[atE o e]? = some x → lessI x.blind e.blind = false
  | [], e, x, h => by simp at h
  | y :: o, e, x, h => by
    rw [atE_cons] at h
    split at h
    · rw [List.getElem?_cons_succ] at h
      exact atE_head h
    · rename_i hy
      rw [List.getElem?_cons_zero] at h
      cases h
      simpa using hy
theorem mid_at {o : List En} {e : En} {i : Nat} (hi : i ≤ o.length) : (o.take i ++ [e] ++ o.drop i)[i]? = some e := by
  rw [List.append_assoc, List.getElem?_append_right (by simp; omega)]
  simp [Nat.min_eq_left hi]
theorem mid_before {o : List En} {e : En} {i j : Nat} (hi : i ≤ o.length) (hj : j < i) : (o.take i ++ [e] ++ o.drop i)[j]? = o[j]? := by
  rw [List.append_assoc, List.getElem?_append_left (by simp; omega), List.getElem?_take_of_lt hj]
theorem ordered_with {l : List En} {e : En} (h : Ordered l) : Ordered (withM l e) := by
  have ho : Ordered (keepE l e) := h.sublist List.filter_sublist
  have hm : ∀ x ∈ keepE l e, x.name ≠ e.name ∧ x.blind ≠ e.blind := fun x hx => (keepE_mem hx).2
  obtain ⟨o, hO⟩ : ∃ o, keepE l e = o := ⟨_, rfl⟩
  have hd : ∀ x ∈ o.drop (atE o e), lessI e.blind x.blind = true := fun x hx => by
    obtain ⟨i, hi, rfl⟩ := List.getElem_of_mem hx
    rw [List.length_drop] at hi
    rw [List.getElem_drop]
    have hat : atE o e < o.length := by omega
    have h1 := atE_head (List.getElem?_eq_getElem hat)
    have h2 : lessI e.blind o[atE o e].blind = true := by
      cases h3 : lessI e.blind o[atE o e].blind with
      | true => rfl
      | false => exact absurd (lessI_total h1 h3) (hm _ (by rw [hO]; exact List.getElem_mem hat)).2
    rcases Nat.eq_zero_or_pos i with rfl | hi0
    · simpa using h2
    · rw [hO] at ho
      exact lessI_trans h2 (ordered_get ho (by omega) (by omega)).1
  unfold withM
  rw [hO] at ho hm ⊢
  unfold Ordered
  rw [List.append_assoc]
  refine List.pairwise_append.2 ⟨ho.sublist (List.take_sublist _ _), List.pairwise_cons.2 ⟨fun x hx => ⟨hd x hx, fun hn => (hm x (List.mem_of_mem_drop hx)).1 hn.symm⟩, ho.sublist (List.drop_sublist _ _)⟩, fun a ha b hb => ?_⟩
  rcases List.mem_cons.1 hb with rfl | hb
  · exact ⟨atE_take ha, (hm a (List.mem_of_mem_take ha)).1⟩
  · exact ⟨lessI_trans (atE_take ha) (hd b hb), by
      have h5 := (List.pairwise_append.1 (by rw [List.take_append_drop]; exact ho : Ordered (o.take (atE o e) ++ o.drop (atE o e)))).2.2 a ha b hb
      exact h5.2⟩
theorem withM_mem {l : List En} {e x : En} (h : x ∈ withM l e) : x = e ∨ x ∈ l := by
  unfold withM at h
  rcases List.mem_append.1 h with h | h
  · rcases List.mem_append.1 h with h | h
    · exact .inr (keepE_mem (List.mem_of_mem_take h)).1
    · exact .inl (List.mem_singleton.1 h)
  · exact .inr (keepE_mem (List.mem_of_mem_drop h)).1
theorem withM_in (l : List En) (e : En) : e ∈ withM l e := by simp [withM]
theorem dirM_with {l : List En} {e : En} (h : dirM l = true) (hl : l.length ≤ 499) : dirM (withM l e) = oneM e := by
  obtain ⟨h1, h2, h3⟩ := (dirM_iff l).1 h
  cases ho : oneM e with
  | true =>
    refine (dirM_iff _).2 ⟨?_, fun x hx => ?_, ordered_with h3⟩
    · rw [withM_length]; have := keepE_length l e; omega
    · rcases withM_mem hx with rfl | hx
      · exact ho
      · exact h2 x hx
  | false =>
    rw [Bool.eq_false_iff]
    intro hd
    have := ((dirM_iff _).1 hd).2.1 e (withM_in l e)
    rw [ho] at this
    cases this
/-- The first entry of a name. -/
structure FirstE (l : List En) (n : List UInt8) (i : Nat) : Prop where
  lt : i < l.length
  at_ : l[i].name = n
  before : ∀ j (hj : j < l.length), j < i → l[j].name ≠ n
theorem firstE_with (l : List En) (e : En) : FirstE (withM l e) e.name (atE (keepE l e) e) ∧ (withM l e)[atE (keepE l e) e]? = some e := by
  have hle := atE_le (keepE l e) e
  have hlen := withM_length l e
  have hat : atE (keepE l e) e < (withM l e).length := by omega
  have hget : (withM l e)[atE (keepE l e) e]? = some e := mid_at hle
  refine ⟨⟨hat, ?_, fun j hj hji => ?_⟩, hget⟩
  · rw [List.getElem?_eq_getElem hat] at hget
    rw [Option.some.inj hget]
  · have h1 : (withM l e)[j]? = (keepE l e)[j]? := mid_before hle hji
    have hjk : j < (keepE l e).length := by omega
    rw [List.getElem?_eq_getElem hj, List.getElem?_eq_getElem hjk] at h1
    rw [Option.some.inj h1]
    exact (keepE_mem (List.getElem_mem hjk)).2.1
theorem firstE_unique {l : List En} {n : List UInt8} {i j : Nat} (h1 : FirstE l n i) (h2 : FirstE l n j) : i = j := by
  rcases Nat.lt_trichotomy i j with h | h | h
  · exact absurd h1.at_ (h2.before i h1.lt h)
  · exact h
  · exact absurd h2.at_ (h1.before j h2.lt h)
end Go.Proofs.Ytnokgejmlpmgfaa
