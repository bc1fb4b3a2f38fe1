/- A reader of bytes, as it lies. Program independent. -/
import Derived.Test.YtcmgjoamfjijhaaStIter
import Derived.Test.YtcmgjoamfjijhaaNum
namespace Go.Proofs.Ytcmgjoamfjijhaa
open Go.RowKit
set_option linter.unusedVariables false

/-- A reader: a block with what is left (bytes of the blocks R) and whether it is good (or bad). -/
def eRd (t : TypeId) (good : Bool) (g : Nat) (R : Nat → Prop) (s : RS) : Ent where
  own k := k = g
  rd k := R k
  holds w := ¬ R g ∧ (∀ k, R k → ∃ o : Obj, w.heap[k]? = some o ∧ o.isCells = true) ∧ ∃ A n c, (∀ k, Ft A n k → R k) ∧ Blk w g t #[.slice A n c, .bool (s.isSome == good)] ∧ Sl w A n c 1 (u8s (s.getD []))
  isC := true
  lt h k hk := by
    rcases hk with rfl | hk
    · obtain ⟨_, _, A, n, c, _, hb, _⟩ := h
      exact hb.lt
    · obtain ⟨o, ho, _⟩ := h.2.1 k hk
      exact (Array.getElem?_eq_some_iff.1 ho).1
  keep h hs hd := by
    obtain ⟨h1, h2, A, n, c, h3, hb, hl⟩ := h
    refine ⟨h1, fun k hk => ?_, A, n, c, h3, hb.step hs (hd _ (.inl rfl)), hl.step hs fun k hk => hd k (.inr (h3 k hk))⟩
    obtain ⟨o, ho, hc⟩ := h2 k hk
    exact ⟨o, (hs.block k (Array.getElem?_eq_some_iff.1 ho).1 (hd k (.inr hk))).trans ho, hc⟩
  cel _ w h k hk o ho := by
    rcases hk with rfl | hk
    · obtain ⟨_, _, A, n, c, _, hb, _⟩ := h
      exact hb.isCells ho
    · obtain ⟨o', ho', hc⟩ := h.2.1 k hk
      rw [ho] at ho'
      cases ho'
      exact hc
instance Calm.rd (t : TypeId) (good : Bool) (g : Nat) (R : Nat → Prop) (s : RS) (L : List Ent) [k : Calm L] : Calm (eRd t good g R s :: L) := Calm.cons' rfl k

class SlotR (L : List Ent) (g : Nat) (t : outParam TypeId) (good : outParam Bool) (R : outParam (Nat → Prop)) (s : outParam RS) (F : outParam (List Ent)) : Prop where
  perm : L.Perm (eRd t good g R s :: F)
instance (priority := high) SlotR.hit (t : TypeId) (good : Bool) (g : Nat) (R : Nat → Prop) (s : RS) (L : List Ent) : SlotR (eRd t good g R s :: L) g t good R s L := ⟨.refl _⟩
instance SlotR.miss (x : Ent) (t : TypeId) (good : Bool) (g : Nat) (R : Nat → Prop) (s : RS) (L F : List Ent) [h : SlotR L g t good R s F] : SlotR (x :: L) g t good R s (x :: F) := ⟨(h.perm.cons x).trans (.swap _ _ _)⟩

section
variable {S : Nat → Prop} {w0 w w' : World} {L F : List Ent} {t : TypeId} {good : Bool} {g : Nat} {R : Nat → Prop} {s : RS}
theorem St.rdr (h : St S w0 w L) (g : Nat) {t : TypeId} {good : Bool} {R : Nat → Prop} {s : RS} [k : SlotR L g t good R s F] : (eRd t good g R s).holds w := (h.perm k.perm).holds _ List.mem_cons_self
/-- The reader's two cells, and the bytes. -/
theorem St.rdBlk (h : St S w0 w L) (g : Nat) {t : TypeId} {good : Bool} {R : Nat → Prop} {s : RS} [k : SlotR L g t good R s F] : ∃ A n c, Blk w g t #[.slice A n c, .bool (s.isSome == good)] ∧ Sl w A n c 1 (u8s (s.getD [])) ∧ (∀ k, Ft A n k → R k) ∧ ¬ R g := by
  obtain ⟨h1, _, A, n, c, h2, h3, h4⟩ := h.rdr g (k := k)
  exact ⟨A, n, c, h3, h4, h2, h1⟩
/-- What a part reads may be read beside it. -/
theorem St.addRd2 {e : Ent} (h : St S w0 w L) [k : Slot L e F] (x : Ent) (hx : x.holds w) (ho : ∀ k, ¬ x.own k) (hr : ∀ k, x.rd k → e.rd k ∧ ¬ e.own k) : St S w0 w (x :: L) := by
  have hp := List.pairwise_cons.1 (h.perm k.perm).apart
  refine ⟨h.step, fun y hy => ?_, fun y hy k hk => ?_, List.pairwise_cons.2 ⟨fun y hy k => ⟨fun hk => (ho k hk).elim, fun hk hyk => ?_⟩, h.apart⟩⟩
  · rcases List.mem_cons.1 hy with rfl | hy
    · exact hx
    · exact h.holds y hy
  · rcases List.mem_cons.1 hy with rfl | hy
    · exact (ho k hk).elim
    · exact h.foot y hy k hk
  · obtain ⟨h1, h2⟩ := hr k hk
    rcases List.mem_cons.1 (‹Slot L e F›.perm.mem_iff.1 hy) with rfl | hy
    · exact h2 hyk
    · exact (hp.1 y hy k).2 h1 hyk
/-- A part that owns nothing and reads nothing. -/
theorem St.reading0 (h : St S w0 w L) (x : Ent) (hx : x.holds w) (ho : ∀ k, ¬ x.own k) (hr : ∀ k, ¬ x.rd k) : St S w0 w (x :: L) := h.addRd x hx ho (fun k hk => (hr k hk).elim)
/-- The reader turned, in its own block. -/
theorem St.setRd (h : St S w0 w L) (g : Nat) {t : TypeId} {good : Bool} {R : Nat → Prop} {s s' : RS} [k : SlotR L g t good R s F] (hs : Step (fun k => k = g) w w') {A : Option Addr} {n c : Nat}
    (hA : ∀ k, Ft A n k → R k) (hb : Blk w' g t #[.slice A n c, .bool (s'.isSome == good)]) (hl : Sl w' A n c 1 (u8s (s'.getD []))) : St S w0 w' (eRd t good g R s' :: F) := by
  have h1 := h.perm k.perm
  have hp := List.pairwise_cons.1 h1.apart
  have hr := h.rdr g (k := k)
  refine ⟨h1.step.trans hs (fun i hi hk => ?_), fun y hy => ?_, fun y hy k hk => ?_, List.pairwise_cons.2 ⟨fun y hy k => hp.1 y hy k, hp.2⟩⟩
  · rcases h1.foot _ List.mem_cons_self i hk with h2 | h2
    · exact h2
    · omega
  · rcases List.mem_cons.1 hy with rfl | hy
    · refine ⟨hr.1, fun k hk => ?_, A, n, c, hA, hb, hl⟩
      obtain ⟨o, ho, hc⟩ := hr.2.1 k hk
      exact ⟨o, (hs.block k (Array.getElem?_eq_some_iff.1 ho).1 (fun e => hr.1 (e ▸ hk))).trans ho, hc⟩
    · exact y.keep (h1.holds y (List.mem_cons_of_mem _ hy)) hs (fun k hk he => (hp.1 y hy k).1 he hk)
  · rcases List.mem_cons.1 hy with rfl | hy
    · exact h1.foot _ List.mem_cons_self k hk
    · exact h1.foot y (List.mem_cons_of_mem _ hy) k hk
/-- A row read from here on, and owned no more. -/
theorem St.release (h : St S w0 w L) (A : Option Addr) {e : TypeId} {sz n c : Nat} {xs : List Value} [k : SlotO L A e sz n c xs F] (hsz : 0 < sz) : St S w0 w (eSl A n c sz xs :: F) := by
  have h1 := h.perm k.perm
  have hp := List.pairwise_cons.1 h1.apart
  refine ⟨h1.step, fun y hy => ?_, fun y hy k hk => ?_, List.pairwise_cons.2 ⟨fun y hy k => ⟨fun hk => hk.elim, fun hk hyk => ?_⟩, hp.2⟩⟩
  · rcases List.mem_cons.1 hy with rfl | hy
    · exact ⟨hsz, (h.row A (k := k)).sl⟩
    · exact h1.holds y (List.mem_cons_of_mem _ hy)
  · rcases List.mem_cons.1 hy with rfl | hy
    · exact hk.elim
    · exact h1.foot y (List.mem_cons_of_mem _ hy) k hk
  · exact (hp.1 y hy k).1 hk.2 (.inl hyk)
/-- A new reader over bytes that are read. -/
theorem St.newRd (h : St S w0 w L) (g : Nat) {t : TypeId} {good : Bool} {A : Option Addr} {n c : Nat} {l : List UInt8} {F2 : List Ent} [k : SlotB L g t [.slice A n c, .bool good] F] [k2 : Slot F (eSl A n c 1 (u8s l)) F2] : St S w0 w (eRd t good g (Ft A n) (some l) :: F) := by
  have h1 := h.perm k.perm
  have hp := List.pairwise_cons.1 h1.apart
  have hm : eSl A n c 1 (u8s l) ∈ F := k2.perm.mem_iff.2 List.mem_cons_self
  have hsl := h1.holds _ (List.mem_cons_of_mem _ hm)
  have hb := h.blk g (k := k)
  refine ⟨h1.step, fun y hy => ?_, fun y hy k hk => ?_, List.pairwise_cons.2 ⟨fun y hy k => ⟨(hp.1 y hy k).1, fun hk hyk => ?_⟩, hp.2⟩⟩
  · rcases List.mem_cons.1 hy with rfl | hy
    · refine ⟨fun hg => ((hp.1 _ hm g).1 rfl) (.inr hg), fun k hk => ?_, A, n, c, fun k hk => hk, by simpa using hb, hsl.2⟩
      have hlt := hsl.2.ft_lt hsl.1 hk
      exact ⟨w.heap[k], Array.getElem?_eq_getElem hlt, (eSl A n c 1 (u8s l)).cel rfl hsl k (.inr hk) _ (Array.getElem?_eq_getElem hlt)⟩
    · exact h1.holds y (List.mem_cons_of_mem _ hy)
  · rcases List.mem_cons.1 hy with rfl | hy
    · exact h1.foot _ List.mem_cons_self k hk
    · exact h1.foot y (List.mem_cons_of_mem _ hy) k hk
  · have hp2 := List.pairwise_cons.1 ((List.Perm.pairwise_iff (fun {x y} hxy k => ⟨fun hy hx => by
      rcases hx with hx | hx
      · exact (hxy k).1 hx (.inl hy)
      · exact (hxy k).2 hx hy, fun hy hx => (hxy k).1 hx (.inr hy)⟩) k2.perm).1 hp.2)
    rcases List.mem_cons.1 (k2.perm.mem_iff.1 hy) with rfl | hy
    · exact hyk
    · exact (hp2.1 y hy k).2 hk hyk
end

/-- A reader whose slice is named. -/
def eRo (t : TypeId) (g : Nat) (R : Nat → Prop) (A : Option Addr) (n c : Nat) (b : Bool) (l : List UInt8) : Ent where
  own k := k = g
  rd k := R k
  holds w := ¬ R g ∧ (∀ k, R k → ∃ o : Obj, w.heap[k]? = some o ∧ o.isCells = true) ∧ (∀ k, Ft A n k → R k) ∧ Blk w g t #[.slice A n c, .bool b] ∧ Sl w A n c 1 (u8s l)
  isC := true
  lt h k hk := by
    rcases hk with rfl | hk
    · exact h.2.2.2.1.lt
    · obtain ⟨o, ho, _⟩ := h.2.1 k hk
      exact (Array.getElem?_eq_some_iff.1 ho).1
  keep h hs hd := by
    obtain ⟨h1, h2, h3, hb, hl⟩ := h
    refine ⟨h1, fun k hk => ?_, h3, hb.step hs (hd _ (.inl rfl)), hl.step hs fun k hk => hd k (.inr (h3 k hk))⟩
    obtain ⟨o, ho, hc⟩ := h2 k hk
    exact ⟨o, (hs.block k (Array.getElem?_eq_some_iff.1 ho).1 (hd k (.inr hk))).trans ho, hc⟩
  cel _ w h k hk o ho := by
    rcases hk with rfl | hk
    · exact h.2.2.2.1.isCells ho
    · obtain ⟨o', ho', hc⟩ := h.2.1 k hk
      rw [ho] at ho'
      cases ho'
      exact hc
instance Calm.ro (t : TypeId) (g : Nat) (R : Nat → Prop) (A : Option Addr) (n c : Nat) (b : Bool) (l : List UInt8) (L : List Ent) [k : Calm L] : Calm (eRo t g R A n c b l :: L) := Calm.cons' rfl k
class SlotRo (L : List Ent) (g : Nat) (t : outParam TypeId) (R : outParam (Nat → Prop)) (A : outParam (Option Addr)) (n c : outParam Nat) (b : outParam Bool) (l : outParam (List UInt8)) (F : outParam (List Ent)) : Prop where
  perm : L.Perm (eRo t g R A n c b l :: F)
instance (priority := high) SlotRo.hit (t : TypeId) (g : Nat) (R : Nat → Prop) (A : Option Addr) (n c : Nat) (b : Bool) (l : List UInt8) (L : List Ent) : SlotRo (eRo t g R A n c b l :: L) g t R A n c b l L := ⟨.refl _⟩
instance SlotRo.miss (x : Ent) (t : TypeId) (g : Nat) (R : Nat → Prop) (A : Option Addr) (n c : Nat) (b : Bool) (l : List UInt8) (L F : List Ent) [h : SlotRo L g t R A n c b l F] : SlotRo (x :: L) g t R A n c b l (x :: F) := ⟨(h.perm.cons x).trans (.swap _ _ _)⟩
instance (priority := high) HasSl.ro (t : TypeId) (g : Nat) (R : Nat → Prop) (A : Option Addr) (n c : Nat) (b : Bool) (l : List UInt8) (L : List Ent) : HasSl (eRo t g R A n c b l :: L) A n c 1 (u8s l) := ⟨fun w h => (h (eRo t g R A n c b l) List.mem_cons_self).2.2.2.2⟩
section
variable {S : Nat → Prop} {w0 w w' : World} {L F : List Ent} {t : TypeId} {good : Bool} {g : Nat} {R : Nat → Prop} {s : RS}
/-- One part said otherwise, its blocks as they were. -/
theorem St.resay {e : Ent} (h : St S w0 w (e :: F)) (e' : Ent) (hx : e'.holds w) (ho : ∀ k, e'.own k ↔ e.own k) (hr : ∀ k, e'.rd k → e.rd k) : St S w0 w (e' :: F) := by
  have hp := List.pairwise_cons.1 h.apart
  refine ⟨h.step, fun y hy => ?_, fun y hy k hk => ?_, List.pairwise_cons.2 ⟨fun y hy k => ⟨fun hk => (hp.1 y hy k).1 ((ho k).1 hk), fun hk => (hp.1 y hy k).2 (hr k hk)⟩, hp.2⟩⟩
  · rcases List.mem_cons.1 hy with rfl | hy
    · exact hx
    · exact h.holds y (List.mem_cons_of_mem _ hy)
  · rcases List.mem_cons.1 hy with rfl | hy
    · exact h.foot e List.mem_cons_self k ((ho k).1 hk)
    · exact h.foot y (List.mem_cons_of_mem _ hy) k hk
theorem St.rdOpen (h : St S w0 w L) (g : Nat) {t : TypeId} {good : Bool} {R : Nat → Prop} {s : RS} [k : SlotR L g t good R s F] : ∃ A n c, St S w0 w (eRo t g R A n c (s.isSome == good) (s.getD []) :: F) := by
  have h' := h.perm k.perm
  obtain ⟨h1, h2, A, n, c, h3, h4, h5⟩ := h.rdr g (k := k)
  exact ⟨A, n, c, h'.resay _ ⟨h1, h2, h3, h4, h5⟩ (fun _ => Iff.rfl) (fun _ hk => hk)⟩
theorem St.ro (h : St S w0 w L) (g : Nat) {t : TypeId} {R : Nat → Prop} {A : Option Addr} {n c : Nat} {b : Bool} {l : List UInt8} [k : SlotRo L g t R A n c b l F] : (eRo t g R A n c b l).holds w := (h.perm k.perm).holds _ List.mem_cons_self
theorem St.roBlk (h : St S w0 w L) (g : Nat) {t : TypeId} {R : Nat → Prop} {A : Option Addr} {n c : Nat} {b : Bool} {l : List UInt8} [k : SlotRo L g t R A n c b l F] : Blk w g t #[.slice A n c, .bool b] := (h.ro g (k := k)).2.2.2.1
theorem St.roSl (h : St S w0 w L) (g : Nat) {t : TypeId} {R : Nat → Prop} {A : Option Addr} {n c : Nat} {b : Bool} {l : List UInt8} [k : SlotRo L g t R A n c b l F] : Sl w A n c 1 (u8s l) := (h.ro g (k := k)).2.2.2.2
/-- Shut as a reader. -/
theorem St.rdShut (h : St S w0 w L) (g : Nat) {t : TypeId} {R : Nat → Prop} {A : Option Addr} {n c : Nat} {b : Bool} {l : List UInt8} [k : SlotRo L g t R A n c b l F] (good : Bool) (s : RS) (hb : (s.isSome == good) = b) (hl : s.getD [] = l) : St S w0 w (eRd t good g R s :: F) := by
  have h' := h.perm k.perm
  obtain ⟨h1, h2, h3, h4, h5⟩ := h.ro g (k := k)
  subst hb hl
  exact h'.resay (eRd t good g R s) ⟨h1, h2, A, n, c, h3, h4, h5⟩ (fun _ => Iff.rfl) (fun _ hk => hk)
/-- The reader turned, in its own block. -/
theorem St.setRo (h : St S w0 w L) (g : Nat) {t : TypeId} {R : Nat → Prop} {A0 : Option Addr} {n0 c0 : Nat} {b0 : Bool} {l0 : List UInt8} [k : SlotRo L g t R A0 n0 c0 b0 l0 F] (hs : Step (fun k => k = g) w w') {A : Option Addr} {n c : Nat} {b : Bool} {l : List UInt8}
    (hA : ∀ k, Ft A n k → R k) (hb : Blk w' g t #[.slice A n c, .bool b]) (hl : Sl w A n c 1 (u8s l)) : St S w0 w' (eRo t g R A n c b l :: F) := by
  have h1 := h.perm k.perm
  have hp := List.pairwise_cons.1 h1.apart
  have hr := h.ro g (k := k)
  refine ⟨h1.step.trans hs (fun i hi hk => ?_), fun y hy => ?_, fun y hy k hk => ?_, List.pairwise_cons.2 ⟨fun y hy k => hp.1 y hy k, hp.2⟩⟩
  · rcases h1.foot _ List.mem_cons_self i hk with h2 | h2
    · exact h2
    · omega
  · rcases List.mem_cons.1 hy with rfl | hy
    · refine ⟨hr.1, fun k hk => ?_, hA, hb, hl.step hs fun k hk e => hr.1 (e ▸ hA k hk)⟩
      obtain ⟨o, ho, hc⟩ := hr.2.1 k hk
      exact ⟨o, (hs.block k (Array.getElem?_eq_some_iff.1 ho).1 (fun e => hr.1 (e ▸ hk))).trans ho, hc⟩
    · exact y.keep (h1.holds y (List.mem_cons_of_mem _ hy)) hs (fun k hk he => (hp.1 y hy k).1 he hk)
  · rcases List.mem_cons.1 hy with rfl | hy
    · exact h1.foot _ List.mem_cons_self k hk
    · exact h1.foot y (List.mem_cons_of_mem _ hy) k hk
/-- A piece of what the reader reads, beside it. -/
theorem St.roPiece (h : St S w0 w L) (g : Nat) {t : TypeId} {R : Nat → Prop} {A0 : Option Addr} {n0 c0 : Nat} {b0 : Bool} {l0 : List UInt8} [k : SlotRo L g t R A0 n0 c0 b0 l0 F] {A : Option Addr} {n c : Nat} {l : List UInt8} (hA : ∀ k, Ft A n k → R k) (hl : Sl w A n c 1 (u8s l)) : St S w0 w (eSl A n c 1 (u8s l) :: L) :=
  h.addRd2 (k := ⟨k.perm⟩) (eSl A n c 1 (u8s l)) ⟨by omega, hl⟩ (fun _ hk => hk) fun i hk => ⟨hA i hk, fun e => (h.ro g (k := k)).1 (show R g from by have e' : i = g := e; subst e'; exact hA i hk)⟩
end
/-- s[k:] of bytes. -/
theorem Sl.drop1 {w : World} {A : Option Addr} {n c : Nat} {l : List UInt8} (h : Sl w A n c 1 (u8s l)) {i : Nat} (hi : i ≤ n) : Sl w (if c = i then A else A.map (·.add i)) (n - i) (c - i) 1 (u8s (l.drop i)) := by
  have := h.drop hi
  rwa [Nat.mul_one, u8s_drop] at this
theorem Sl.take1 {w : World} {A : Option Addr} {n c : Nat} {l : List UInt8} (h : Sl w A n c 1 (u8s l)) {j : Nat} (hj : j ≤ n) : Sl w A j c 1 (u8s (l.take j)) := by
  have := h.take (j := j) (m := c) hj (Nat.le_refl _) (Nat.le_trans hj h.le)
  rwa [Nat.mul_one, u8s_take] at this
end Go.Proofs.Ytcmgjoamfjijhaa
