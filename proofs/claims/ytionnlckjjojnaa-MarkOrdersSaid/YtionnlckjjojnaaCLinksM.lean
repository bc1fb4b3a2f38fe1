/- Ids each once, rising; plain. -/
import Derived.Test.YtionnlckjjojnaaCOrder
namespace Go.Proofs.Ytionnlckjjojnaa
open Go.RowKit
set_option linter.unusedVariables false

theorem less_cons (a b : UInt8) (a1 b1 : List UInt8) : lessM (a :: a1) (b :: b1) = if a < b then true else if b < a then false else lessM a1 b1 := by
  simp only [lessM, Op.bytesLess]
  by_cases h1 : a < b
  · simp [h1]
  · by_cases h2 : b < a
    · simp [h1, h2]
      intro e
      subst e
      exact absurd h2 (UInt8.lt_irrefl _)
    · simp [h1, h2]
      intro _
      exact UInt8.le_antisymm (UInt8.not_lt.1 h2) (UInt8.not_lt.1 h1)
theorem less_nil (b : UInt8) (b1 : List UInt8) : lessM [] (b :: b1) = true := by simp [lessM, Op.bytesLess]
theorem less_nil2 (a1 : List UInt8) : lessM a1 [] = false := by cases a1 <;> simp [lessM, Op.bytesLess]
theorem less_irrefl : ∀ a : List UInt8, lessM a a = false
  | [] => less_nil2 []
  | a :: a1 => by rw [less_cons, if_neg (UInt8.lt_irrefl a), if_neg (UInt8.lt_irrefl a)]; exact less_irrefl a1
theorem less_trans : ∀ {a b c : List UInt8}, lessM a b = true → lessM b c = true → lessM a c = true
  | _, [], _, h, _ => by rw [less_nil2] at h; cases h
  | _, _ :: _, [], _, h => by rw [less_nil2] at h; cases h
  | [], _ :: _, _ :: _, _, _ => less_nil _ _
  | a :: a1, b :: b1, c :: c1, h1, h2 => by
    rw [less_cons] at h1 h2 ⊢
    by_cases x1 : a < b
    · by_cases x2 : b < c
      · rw [if_pos (UInt8.lt_trans x1 x2)]
      · rw [if_neg x2] at h2
        by_cases x3 : c < b
        · rw [if_pos x3] at h2; cases h2
        · have e : b = c := UInt8.le_antisymm (UInt8.not_lt.1 x3) (UInt8.not_lt.1 x2)
          subst e
          rw [if_pos x1]
    · rw [if_neg x1] at h1
      by_cases x3 : b < a
      · rw [if_pos x3] at h1; cases h1
      · have e : a = b := UInt8.le_antisymm (UInt8.not_lt.1 x3) (UInt8.not_lt.1 x1)
        subst e
        rw [if_neg x3] at h1
        by_cases x2 : a < c
        · rw [if_pos x2]
        · rw [if_neg x2] at h2 ⊢
          by_cases x4 : c < a
          · rw [if_pos x4] at h2; cases h2
          · rw [if_neg x4] at h2 ⊢
            exact less_trans h1 h2
theorem less_total : ∀ {a b : List UInt8}, lessM a b = false → lessM b a = false → a = b
  | [], [], _, _ => rfl
  | [], b :: b1, h, _ => by rw [less_nil] at h; cases h
  | a :: a1, [], _, h => by rw [less_nil] at h; cases h
  | a :: a1, b :: b1, h1, h2 => by
    rw [less_cons] at h1 h2
    by_cases x1 : a < b
    · rw [if_pos x1] at h1; cases h1
    · by_cases x2 : b < a
      · rw [if_pos x2] at h2; cases h2
      · have e : a = b := UInt8.le_antisymm (UInt8.not_lt.1 x2) (UInt8.not_lt.1 x1)
        subst e
        rw [if_neg x1, if_neg x1] at h1 h2
        rw [less_total h1 h2]
def lessI (x y : Id) : Bool := lessM x.1 y.1
theorem lessI_irrefl (x : Id) : lessI x x = false := less_irrefl _
theorem lessI_trans {x y z : Id} (h1 : lessI x y = true) (h2 : lessI y z = true) : lessI x z = true := less_trans h1 h2
theorem lessI_total {x y : Id} (h1 : lessI x y = false) (h2 : lessI y x = false) : x = y := Subtype.ext (less_total h1 h2)
theorem lessI_asymm {x y : Id} (h1 : lessI x y = true) : lessI y x = false := by
  cases h : lessI y x with
  | false => rfl
  | true => have := lessI_irrefl x; rw [lessI_trans h1 h] at this; cases this
/-- Rising. -/
def Rises (l : List Id) : Prop := l.Pairwise fun x y => lessI x y = true
/-- One more in its place, if it isn't there. -/
def insI : List Id → Id → List Id
  | [], x => [x]
  | y :: l, x => if lessI y x = true then y :: insI l x else if y = x then y :: l else x :: y :: l
theorem insI_mem : ∀ (l : List Id) (x z : Id), z ∈ insI l x ↔ z = x ∨ z ∈ l
  | [], x, z => by simp [insI]
  | y :: l, x, z => by
    unfold insI
    split
    · rw [List.mem_cons, insI_mem l x z, List.mem_cons]
      constructor
      · rintro (h | h | h)
        · exact .inr (.inl h)
        · exact .inl h
        · exact .inr (.inr h)
      · rintro (h | h | h)
        · exact .inr (.inl h)
        · exact .inl h
        · exact .inr (.inr h)
    · split
      · rename_i h
        subst h
        simp
      · simp
theorem insI_rises : ∀ {l : List Id} (x : Id), Rises l → Rises (insI l x)
  | [], x, _ => by simp [insI, Rises]
  | y :: l, x, h => by
    have hp := List.pairwise_cons.1 h
    unfold insI
    split
    · rename_i hyx
      refine List.pairwise_cons.2 ⟨fun z hz => ?_, insI_rises x hp.2⟩
      rcases (insI_mem l x z).1 hz with rfl | hz
      · exact hyx
      · exact hp.1 z hz
    · rename_i hyx
      split
      · exact h
      · rename_i hne
        have hxy : lessI x y = true := by
          cases hh : lessI x y with
          | true => rfl
          | false => exact absurd (lessI_total (by simpa using hyx) hh) hne
        refine List.pairwise_cons.2 ⟨fun z hz => ?_, h⟩
        rcases List.mem_cons.1 hz with rfl | hz
        · exact hxy
        · exact lessI_trans hxy (hp.1 z hz)
/-- The ids of a list, each once, rising. -/
def linksM (l : List Id) : List Id := l.foldl insI []
theorem linksM_snoc (l : List Id) (x : Id) : linksM (l ++ [x]) = insI (linksM l) x := by simp [linksM]
theorem linksM_rises (l : List Id) : Rises (linksM l) := by
  have : ∀ (l acc : List Id), Rises acc → Rises (l.foldl insI acc) := by
    intro l
    induction l with
    | nil => intro acc h; exact h
    | cons x l ih => intro acc h; exact ih _ (insI_rises x h)
  exact this l [] .nil
theorem linksM_mem (l : List Id) (z : Id) : z ∈ linksM l ↔ z ∈ l := by
  have : ∀ (l acc : List Id), z ∈ l.foldl insI acc ↔ z ∈ acc ∨ z ∈ l := by
    intro l
    induction l with
    | nil => intro acc; simp
    | cons x l ih =>
      intro acc
      rw [List.foldl_cons, ih, insI_mem, List.mem_cons]
      constructor
      · rintro ((h | h) | h)
        · exact .inr (.inl h)
        · exact .inl h
        · exact .inr (.inr h)
      · rintro (h | h | h)
        · exact .inl (.inr h)
        · exact .inl (.inl h)
        · exact .inr h
  simpa [linksM] using this l []
theorem rises_unique : ∀ {a b : List Id}, Rises a → Rises b → (∀ z, z ∈ a ↔ z ∈ b) → a = b
  | [], [], _, _, _ => rfl
  | [], y :: b, _, _, h => by have := (h y).2 List.mem_cons_self; cases this
  | x :: a, [], _, _, h => by have := (h x).1 List.mem_cons_self; cases this
  | x :: a, y :: b, ha, hb, h => by
    have pa := List.pairwise_cons.1 ha
    have pb := List.pairwise_cons.1 hb
    have e : x = y := by
      rcases List.mem_cons.1 ((h x).1 List.mem_cons_self) with e | hx
      · exact e
      · rcases List.mem_cons.1 ((h y).2 List.mem_cons_self) with e | hy
        · exact e.symm
        · have h1 := pb.1 x hx
          have h2 := pa.1 y hy
          rw [lessI_asymm h1] at h2
          cases h2
    subst e
    rw [rises_unique pa.2 pb.2 (fun z => ?_)]
    have hz := h z
    rw [List.mem_cons, List.mem_cons] at hz
    have na : ∀ l : List Id, (∀ z ∈ l, lessI x z = true) → x ∉ l := fun l hl hx => by have := hl x hx; rw [lessI_irrefl] at this; cases this
    constructor
    · intro hm
      rcases hz.1 (.inr hm) with rfl | h2
      · exact absurd hm (na a pa.1)
      · exact h2
    · intro hm
      rcases hz.2 (.inr hm) with rfl | h2
      · exact absurd hm (na b pb.1)
      · exact h2
theorem links_unique {a l : List Id} (ha : Rises a) (h : ∀ z, z ∈ a ↔ z ∈ l) : a = linksM l := rises_unique ha (linksM_rises l) (fun z => by rw [h, linksM_mem])
theorem insI_length (l : List Id) (x : Id) : (insI l x).length ≤ l.length + 1 := by
  induction l with
  | nil => simp [insI]
  | cons y l ih =>
    unfold insI
    split
    · simp; omega
    · split <;> simp
theorem linksM_length (l : List Id) : (linksM l).length ≤ l.length := by
  have : ∀ (l acc : List Id), (l.foldl insI acc).length ≤ acc.length + l.length := by
    intro l
    induction l with
    | nil => intro acc; simp
    | cons x l ih =>
      intro acc
      have h1 := ih (insI acc x)
      have h2 := insI_length acc x
      rw [List.foldl_cons, List.length_cons]
      omega
  simpa [linksM] using this l []
end Go.Proofs.Ytionnlckjjojnaa
