/- Loops over a function, with memory as a list of parts. Program independent. -/
import Derived.Test.YtcmgjoamfjijhaaReg
namespace Go.Proofs.Ytcmgjoamfjijhaa
open Go.RowKit
set_option linter.unusedVariables false

/-- Parts whose blocks are cells. -/
class Calm (L : List Ent) : Prop where
  all : ∀ x ∈ L, x.isC = true
instance Calm.nil : Calm [] := ⟨by simp⟩
theorem Calm.cons' {x : Ent} {L : List Ent} (h : x.isC = true) (k : Calm L) : Calm (x :: L) := ⟨fun y hy => by
  rcases List.mem_cons.1 hy with rfl | hy
  · exact h
  · exact k.all y hy⟩
instance Calm.blk (g : Nat) (t : TypeId) (xs : List Value) (L : List Ent) [k : Calm L] : Calm (eBlk g t xs :: L) := Calm.cons' rfl k
instance Calm.own (e : TypeId) (sz : Nat) (A : Option Addr) (n c : Nat) (xs : List Value) (L : List Ent) [k : Calm L] : Calm (eOwn e sz A n c xs :: L) := Calm.cons' rfl k
instance Calm.sl (A : Option Addr) (n c sz : Nat) (xs : List Value) (L : List Ent) [k : Calm L] : Calm (eSl A n c sz xs :: L) := Calm.cons' rfl k
instance Calm.got (A : Option Addr) (n c sz : Nat) (xs : List Value) (L : List Ent) [k : Calm L] : Calm (eGot A n c sz xs :: L) := Calm.cons' rfl k
instance Calm.star (a b : Ent) (L : List Ent) [k : Calm (a :: b :: L)] : Calm (eStar a b :: L) := Calm.cons' (by simp [eStar, k.all a (by simp), k.all b (by simp)]) ⟨fun x hx => k.all x (by simp [hx])⟩

section
variable {S : Nat → Prop} {w0 w w' : World} {L L' : List Ent} {B : Nat}
theorem St.loose (h : St S w0 w L) (hL : Loose B w w') (hB : w0.heap.size ≤ B) [hc : Calm L] : St S w0 w' L := by
  refine ⟨hL.step h.step hB, fun x hx => ?_, h.foot, h.apart⟩
  refine x.keep (h.holds x hx) hL fun k hk ⟨_, o, ho, hc2⟩ => ?_
  have := x.cel (hc.all x hx) (h.holds x hx) k hk o ho
  rw [hc2] at this
  cases this
def owns (L : List Ent) (i : Nat) : Prop := ∃ x ∈ L, x.own i
theorem St.renew (h : St S w0 w L) : St (owns L) w w L := h.anew
theorem St.back (h : St S w0 w L) (k : St (owns L) w w' L') : St S w0 w' L' := h.after k (fun _ h => h)
theorem St.keepsFrom (h : St S w0 w L) (k : St (owns L) w w' L') [hc : Calm L] : KeepsFrom B w w' :=
  k.step.keepsFrom fun i o ⟨x, hx, hi⟩ ho => x.cel (hc.all x hx) (h.holds x hx) i (.inl hi) o ho
theorem St.keeps {K : Nat → Prop} (k : St (owns L) w w' L') (hK : ∀ i, K i → ¬ owns L i) : Keeps K w w' := k.step.keeps hK
theorem owns_nil {i : Nat} : ¬ owns [] i := fun ⟨_, h, _⟩ => by cases h
theorem owns_blk {g : Nat} {t : TypeId} {xs : List Value} {i : Nat} : owns (eBlk g t xs :: L) i ↔ i = g ∨ owns L i := by
  constructor
  · rintro ⟨x, hx, hi⟩
    rcases List.mem_cons.1 hx with rfl | hx
    · exact .inl hi
    · exact .inr ⟨x, hx, hi⟩
  · rintro (rfl | ⟨x, hx, hi⟩)
    · exact ⟨_, List.mem_cons_self, rfl⟩
    · exact ⟨x, List.mem_cons_of_mem _ hx, hi⟩
theorem owns_own {e : TypeId} {sz : Nat} {A : Option Addr} {n c : Nat} {xs : List Value} {i : Nat} : owns (eOwn e sz A n c xs :: L) i ↔ At A i ∨ owns L i := by
  constructor
  · rintro ⟨x, hx, hi⟩
    rcases List.mem_cons.1 hx with rfl | hx
    · exact .inl hi
    · exact .inr ⟨x, hx, hi⟩
  · rintro (h | ⟨x, hx, hi⟩)
    · exact ⟨_, List.mem_cons_self, h⟩
    · exact ⟨x, List.mem_cons_of_mem _ hx, hi⟩
theorem owns_sl {A : Option Addr} {n c sz : Nat} {xs : List Value} {i : Nat} : owns (eSl A n c sz xs :: L) i ↔ owns L i := by
  constructor
  · rintro ⟨x, hx, hi⟩
    rcases List.mem_cons.1 hx with rfl | hx
    · exact hi.elim
    · exact ⟨x, hx, hi⟩
  · rintro ⟨x, hx, hi⟩
    exact ⟨x, List.mem_cons_of_mem _ hx, hi⟩
/-- All that the parts own lies from one place to another. -/
theorem St.owns_lt (h : St S w0 w L) {i : Nat} (hi : owns L i) : i < w.heap.size ∧ (S i ∨ w0.heap.size ≤ i) := by
  obtain ⟨x, hx, hi⟩ := hi
  exact ⟨x.lt (h.holds x hx) i (.inl hi), h.foot x hx i hi⟩
/-- A variable whole, as it is read. -/
theorem Blk.slv {g n : Nat} {t : TypeId} {xs : List Value} (h : Blk w g t xs.toArray) (hn : xs.length = n) : Sl w (some ⟨g, 0, none⟩) 1 1 n xs :=
  ⟨by rw [hn, Nat.one_mul], Nat.le_refl _, by simp [maxLen], fun _ => ⟨g, 0, rfl, h.lt, fun i u hu => by rw [Nat.zero_add, h.cell]; simpa using hu⟩⟩
end
theorem Sl.elemAt {α : Type} {w : World} {b off n c sz : Nat} {l : List α} {f : α → List Value} (h : Sl w (some ⟨b, off, none⟩) n c sz (l.flatMap f)) (hf : ∀ x, (f x).length = sz) {k : Nat} (hk : k < l.length) (hsz : 0 < sz) : Cells w b (off + k * sz) (f l[k]) := by
  obtain ⟨b', off', e, hc⟩ := h.elem hf hk hsz
  injection e with e
  injection e with e1 e2
  subst e1 e2
  exact hc
theorem St.newVar {W w : World} {g : Nat} {t : TypeId} {xs : List Value} (h : St (fun _ => False) W w [eBlk g t xs]) : Blk w g t xs.toArray ∧ W.heap.size ≤ g :=
  ⟨h.holds (eBlk g t xs) (by simp), (h.foot (eBlk g t xs) (by simp) g rfl).resolve_left id⟩
theorem prefix_next {α : Type} {pre l : List α} {x : α} (h : pre <+: l) (hl : pre.length < l.length) : pre ++ [x] <+: l ↔ x = l[pre.length] := by
  obtain ⟨t, rfl⟩ := h
  cases t with
  | nil => simp at hl
  | cons y t => simp
theorem St.marked {W w2 : World} {L L' : List Ent} {D : Nat} (k : St (owns L) W w2 L') (hK : W.heap[D]? = some (.deferred (some []))) (hD : ∀ i, owns L i → i < D) : w2.heap[D]? = some (.deferred (some [])) := by
  rw [k.step.block D (Array.getElem?_eq_some_iff.1 hK).1 (fun ho => Nat.lt_irrefl _ (hD D ho))]
  exact hK
/-- Behind the return, the block for the rounds' deferred calls being turned. -/
theorem St.put {S : Nat → Prop} {w0 w2 : World} {L : List Ent} {D : Nat} (h : St S w0 w2 L) (hK : w2.heap[D]? = some (.deferred (some []))) (hD : w0.heap.size ≤ D) [Calm L] : St S w0 (w2.putObj D (.deferred none)) L :=
  h.loose (loose_put (B := w0.heap.size) (.deferred none) hD hK rfl) (Nat.le_refl _)
end Go.Proofs.Ytcmgjoamfjijhaa
