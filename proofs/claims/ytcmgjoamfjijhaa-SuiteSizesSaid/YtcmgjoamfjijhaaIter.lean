/- Iterators and the loops over them, at the wide fence: the words that this seat's walks share. Program independent. -/
import Derived.RangeFuncNested
import Derived.RangeFuncBound
import Derived.RangeFuncCalls
import Derived.RangeFuncLeaves
import Derived.RangeFuncBox
import Derived.RangeFuncWrites
import Derived.Shelf.Abstract
import Derived.Shelf.RegionOpen
import Derived.OwnWalkIn
import Derived.TacticsInMore
import Derived.LoopNIn
import Derived.LoopIn
import Derived.Test.YtcmgjoamfjijhaaAgg
namespace Go.Proofs.Ytcmgjoamfjijhaa
open Go.RowKit

theorem isCells_of_cell {w : World} {p : Addr} {v : Value} {o : Obj} (h : w.cell? p = some v) (ho : w.heap[p.block]? = some o) : o.isCells = true := by
  obtain ⟨o', ho', hc'⟩ := cells_of_cell h
  rw [ho] at ho'
  cases ho'
  exact hc'
theorem Blk.isCells {w : World} {g : Nat} {t : TypeId} {cs : Array Value} (hb : Blk w g t cs) {o : Obj} (ho : w.heap[g]? = some o) : o.isCells = true := by
  rw [show w.heap[g]? = _ from hb] at ho
  cases ho
  rfl
/-- The cells' blocks of K lie as they lay. -/
structure Keeps (K : Nat → Prop) (w w' : World) : Prop where
  size : w.heap.size ≤ w'.heap.size
  block : ∀ k o, K k → w.heap[k]? = some o → o.isCells = true → w'.heap[k]? = some o
section
variable {K : Nat → Prop} {w w' w'' : World}
theorem Keeps.refl (K : Nat → Prop) (w : World) : Keeps K w w := ⟨Nat.le_refl _, fun _ _ _ h _ => h⟩
theorem Keeps.trans (h : Keeps K w w') (k : Keeps K w' w'') : Keeps K w w'' :=
  ⟨Nat.le_trans h.size k.size, fun i o hi hl hc => k.block i o hi (h.block i o hi hl hc) hc⟩
theorem Step.keeps {S : Nat → Prop} (h : Step S w w') (hd : ∀ k, K k → ¬ S k) : Keeps K w w' := ⟨h.size, fun k _ hk hl _ => (h.block k (Array.getElem?_eq_some_iff.1 hl).1 (hd k hk)).trans hl⟩
theorem Keeps.cell (h : Keeps K w w') {p : Addr} {v : Value} (hc : w.cell? p = some v) (hk : K p.block) : w'.cell? p = some v := by
  obtain ⟨o, ho, hco⟩ := cells_of_cell hc
  exact (World.cell?_of_block ((h.block p.block o hk ho hco).trans ho.symm)).trans hc
theorem Keeps.blk {g : Nat} {t : TypeId} {cs : Array Value} (h : Keeps K w w') (hb : Blk w g t cs) (hk : K g) : Blk w' g t cs := h.block g _ hk hb rfl
theorem Keeps.sl {A : Option Addr} {n c sz : Nat} {xs : List Value} (h : Keeps K w w') (hs : Sl w A n c sz xs) (hk : ∀ k, Ft A n k → K k) : Sl w' A n c sz xs :=
  ⟨hs.len, hs.le, hs.cap, fun hx => by
    obtain ⟨b, off, e, hb, hc⟩ := hs.rd hx
    exact ⟨b, off, e, Nat.lt_of_lt_of_le hb h.size, fun i u hu => h.cell (hc i u hu) (hk b ⟨hs.npos hx, _, e, rfl⟩)⟩⟩
end

/-- From w to w' nothing has turned but blocks that are no cells and lie at or beyond B, and what is new. -/
def Loose (B : Nat) (w w' : World) : Prop := Step (fun k => B ≤ k ∧ ∃ o : Obj, w.heap[k]? = some o ∧ o.isCells = false) w w'
section
variable {B : Nat} {w w' : World}
theorem Loose.of_grownBy {row : Option Nat} (hg : w.grownBy w' row) (hr : ∀ r, row = some r → B ≤ r ∧ ∃ o : Obj, w.heap[r]? = some o ∧ o.isCells = false) : Loose B w w' :=
  ⟨hg.os, hg.tape, hg.output, hg.size, fun k hk hs => hg.block k hk (fun e => hs (hr k e.symm))⟩
theorem ownFrom_of {β : Type} {I : β → World → Prop} (h : ∀ s w w', I s w → Loose B w w' → I s w') : OwnFrom B I := fun s w w' _ hs hg hr => h s w w' hs (Loose.of_grownBy hg hr)
theorem cell_not {p : Addr} {v : Value} (h : w.cell? p = some v) : ¬ ∃ o : Obj, w.heap[p.block]? = some o ∧ o.isCells = false := by
  rintro ⟨o, ho, hc⟩
  obtain ⟨o', ho', hc'⟩ := cells_of_cell h
  rw [ho] at ho'
  cases ho'
  rw [hc] at hc'
  cases hc'
theorem Loose.cell {p : Addr} {v : Value} (h : Loose B w w') (hc : w.cell? p = some v) : w'.cell? p = some v := Step.cell h hc fun e => cell_not hc e.2
theorem Loose.blk {g : Nat} {t : TypeId} {cs : Array Value} (h : Loose B w w') (hb : Blk w g t cs) : Blk w' g t cs := hb.step h fun ⟨_, o, ho, hc⟩ => by
  rw [show w.heap[g]? = _ from hb] at ho
  cases ho
  cases hc
theorem Loose.sl {A : Option Addr} {n c sz : Nat} {xs : List Value} (h : Loose B w w') (hs : Sl w A n c sz xs) : Sl w' A n c sz xs :=
  ⟨hs.len, hs.le, hs.cap, fun hx => by
    obtain ⟨b, off, e, hb, hc⟩ := hs.rd hx
    exact ⟨b, off, e, Nat.lt_of_lt_of_le hb h.size, fun i u hu => h.cell (hc i u hu)⟩⟩
theorem Loose.own {e : TypeId} {A : Option Addr} {n c sz : Nat} {xs : List Value} (h : Loose B w w') (ho : Own w e sz A n c xs) : Own w' e sz A n c xs := by
  refine ⟨ho.1, ?_⟩
  rcases ho.form with ⟨rfl, rfl, rfl, rfl⟩ | ⟨g, cur, rfl, hg, h1, h2, h3, h4⟩
  · exact .inl ⟨rfl, rfl⟩
  · exact .inr ⟨g, c, cur, rfl, Nat.zero_le _, h.blk hg, h1, h2, h3, h4⟩
theorem Loose.step {S : Nat → Prop} {w0 : World} (h : Loose B w w') (hs : Step S w0 w) (hB : w0.heap.size ≤ B) : Step S w0 w' := hs.trans h fun i hi hk => absurd hk.1 (by omega)
theorem Step.keepsFrom {S : Nat → Prop} (h : Step S w w') (hS : ∀ k (o : Obj), S k → w.heap[k]? = some o → o.isCells = true) : KeepsFrom B w w' :=
  ⟨h.size, fun k o _ hk ho => (h.block k (Array.getElem?_eq_some_iff.1 hk).1 (fun hs => by rw [hS k o hs hk] at ho; cases ho)).trans hk⟩
theorem Own.isCells {e : TypeId} {A : Option Addr} {n c sz : Nat} {xs : List Value} (h : Own w e sz A n c xs) {k : Nat} (hk : At A k) {o : Obj} (ho : w.heap[k]? = some o) : o.isCells = true := by
  obtain ⟨a, rfl, rfl⟩ := hk
  rcases h.form with ⟨h', _⟩ | ⟨g, cur, h', hg, _⟩
  · cases h'
  · injection h' with h'; subst h'; exact hg.isCells ho
/-- The block for the rounds' deferred calls is turned at the return. -/
theorem loose_put {D : Nat} {o : Obj} (o' : Obj) (hB : B ≤ D) (hD : w.heap[D]? = some o) (hc : o.isCells = false) : Loose B w (w.putObj D o') :=
  Loose.of_grownBy (grownBy_putObj' w D o') fun r e => by cases e; exact ⟨hB, o, hD, hc⟩
end

/-- An iterator's contract at the wide fence: it tells just xs, each x as 'encs x', while the loop's body keeps the blocks of K. -/
def Tells {α : Type} (P : Program) (g : Nat) (lb : Array Value) (encs : α → Array Value) (K : Nat → Prop) (xs : List α) (w : World) : Prop :=
  ∀ n, SeqStopsK Fence.wide n P g lb encs (Keeps K) (· = xs) (· <+: xs) xs.length w

/-- A range over a function that has a contract, in a function's own body. -/
theorem wp_range {P : Program} {α : Type} {g : Operand} {ps : Array Tmp} {assign body : Code} {Q : Exit → Act → World → Prop} {a : Act} {w : World} {gf : Nat} {lb : Array Value} (hg : a.eval g = .func (.func gf) #[] lb)
    (eg : ∀ args w, (callFunc gf args).run P w = .ok (.enter gf args) w) {encs : α → Array Value} {K : Nat → Prop} {xs : List α} (hseq : Tells P gf lb encs K xs w) (hps : ∀ x, (encs x).size = ps.size)
    (I : List α → World → Prop) (Ix : Code → List α → World → Prop) (hI : ∀ s w1 w2, I s w1 → Loose w.heap.size w1 w2 → I s w2) (hIx : ∀ c s w1 w2, Ix c s w1 → Loose w.heap.size w1 w2 → Ix c s w2) (h0 : I [] w) (a₁ : α → Act)
    (hassign : ∀ (l : Nat) (x : α) (W : World) (K : Act → World → Prop), K (a₁ x) W →
      assign.wpIn (Fence.wide.inRound l) 1 P (Exit.then K (fun _ _ _ => False)) { tmps := (ps.zip (encs x)).foldl (fun t (p, v) => t.setIfInBounds p v) a.tmps, defers := [] } W)
    (hbody : ∀ (l : Nat) (pre : List α) (x : α) (W : World), I pre W → pre.length < xs.length → body.wpIn (Fence.wide.inRound l) 1 P (ownPostG w.heap.size (Keeps K) I Ix (pre ++ [x]) W) (a₁ x) W)
    (hdone : ∀ (D : Nat) (W : World), w.heap.size ≤ D → I xs W → W.heap[D]? = some (.deferred (some [])) → Q .normal { a with defers := { target := .collected D, args := #[] } :: a.defers } W)
    (hstop : ∀ (D : Nat) (c : Code) (pre : List α) (W : World), w.heap.size ≤ D → pre <+: xs → Ix c pre W → W.heap[D]? = some (.deferred (some [])) → c.wp P Q { a with defers := { target := .collected D, args := #[] } :: a.defers } W) :
    (Code.rangeFunc g ps assign body).wp P Q a w :=
  (wpIn_wide (n := 3)).1 (wpIn_rangeFunc_ownG rfl (by omega) hg trivial eg (hseq 2) (fun h k => h.trans k)
    (fun W l o o' hl ho hc _ => ⟨by simp, fun k x _ hx hxc => (World.putObj_heap_other (fun e => by subst e; rw [ho] at hx; cases hx; rw [hc] at hxc; cases hxc)).trans hx⟩)
    (Below.refl _ _) hps I Ix (ownFrom_of hI) (fun c => ownFrom_of (hIx c)) h0 a₁ hassign hbody (fun D ys W hD e hi => by subst e; exact hdone D W hD hi) fun D c pre W hD hp hi hk => wpIn_wide.2 (hstop D c pre W hD hp hi hk))

/-- The same, where the round's slots are named: 'ups x' says what each of them holds. -/
theorem wp_range_at {P : Program} {α : Type} {g : Operand} {ps : Array Tmp} {assign body : Code} {Q : Exit → Act → World → Prop} {a : Act} {w : World} {gf : Nat} {lb : Array Value} (hg : a.eval g = .func (.func gf) #[] lb)
    (eg : ∀ args w, (callFunc gf args).run P w = .ok (.enter gf args) w) {encs : α → Array Value} {K : Nat → Prop} {xs : List α} (hseq : Tells P gf lb encs K xs w) (hps : ∀ x, (encs x).size = ps.size)
    (ups : α → List (Nat × Value))
    (I : List α → World → Prop) (Ix : Code → List α → World → Prop) (hI : ∀ s w1 w2, I s w1 → Loose w.heap.size w1 w2 → I s w2) (hIx : ∀ c s w1 w2, Ix c s w1 → Loose w.heap.size w1 w2 → Ix c s w2) (h0 : I [] w)
    (hassign : ∀ (l : Nat) (x : α) (W : World) (K : Act → World → Prop), K { tmps := (ups x).foldl (fun t p => t.setIfInBounds p.1 p.2) a.tmps, defers := [] } W →
      assign.wpIn (Fence.wide.inRound l) 1 P (Exit.then K (fun _ _ _ => False)) { tmps := (ps.zip (encs x)).foldl (fun t (p, v) => t.setIfInBounds p v) a.tmps, defers := [] } W)
    (hbody : ∀ (l : Nat) (pre : List α) (x : α) (W : World), I pre W → pre.length < xs.length → body.wpIn (Fence.wide.inRound l) 1 P (ownPostG w.heap.size (Keeps K) I Ix (pre ++ [x]) W) { tmps := (ups x).foldl (fun t p => t.setIfInBounds p.1 p.2) a.tmps, defers := [] } W)
    (hdone : ∀ (D : Nat) (W : World), w.heap.size ≤ D → I xs W → W.heap[D]? = some (.deferred (some [])) → Q .normal { a with defers := { target := .collected D, args := #[] } :: a.defers } W)
    (hstop : ∀ (D : Nat) (c : Code) (pre : List α) (W : World), w.heap.size ≤ D → pre <+: xs → Ix c pre W → W.heap[D]? = some (.deferred (some [])) → c.wp P Q { a with defers := { target := .collected D, args := #[] } :: a.defers } W) :
    (Code.rangeFunc g ps assign body).wp P Q a w :=
  wp_range hg eg hseq hps I Ix hI hIx h0 (fun x => { tmps := (ups x).foldl (fun t p => t.setIfInBounds p.1 p.2) a.tmps, defers := [] }) hassign hbody hdone hstop

theorem zip1 (p : Tmp) (u : Value) (t : Array Value) : (#[p].zip #[u]).foldl (fun t (p, v) => t.setIfInBounds p v) t = t.setIfInBounds p u := by simp
theorem zip2 (p q : Tmp) (u v : Value) (t : Array Value) : (#[p, q].zip #[u, v]).foldl (fun t (p, v) => t.setIfInBounds p v) t = (t.setIfInBounds p u).setIfInBounds q v := by simp
/-- The same, where the assignment lays blocks: 'Ax x a' W' says what it leaves. -/
theorem wp_range_ax {P : Program} {α : Type} {g : Operand} {ps : Array Tmp} {assign body : Code} {Q : Exit → Act → World → Prop} {a : Act} {w : World} {gf : Nat} {lb : Array Value} (hg : a.eval g = .func (.func gf) #[] lb)
    (eg : ∀ args w, (callFunc gf args).run P w = .ok (.enter gf args) w) {encs : α → Array Value} {K : Nat → Prop} {xs : List α} (hseq : Tells P gf lb encs K xs w) (hps : ∀ x, (encs x).size = ps.size)
    (I : List α → World → Prop) (Ix : Code → List α → World → Prop) (hI : ∀ s w1 w2, I s w1 → Loose w.heap.size w1 w2 → I s w2) (hIx : ∀ c s w1 w2, Ix c s w1 → Loose w.heap.size w1 w2 → Ix c s w2) (h0 : I [] w)
    (Ax : Array Value → α → Act → World → Prop) (hAx : ∀ x a' w1 w2, Ax a.tmps x a' w1 → Loose w.heap.size w1 w2 → Ax a.tmps x a' w2)
    (hassign : ∀ (l : Nat) (pre : List α) (x : α) (W : World) (M : Act → World → Prop), I pre W → (∀ a' W', KeepsFrom w.heap.size W W' → Keeps K W W' → I pre W' → Ax a.tmps x a' W' → M a' W') →
      assign.wpIn (Fence.wide.inRound l) 1 P (Exit.then M (fun _ _ _ => False)) { tmps := (ps.zip (encs x)).foldl (fun t (p, v) => t.setIfInBounds p v) a.tmps, defers := [] } W)
    (hbody : ∀ (l : Nat) (pre : List α) (x : α) (a' : Act) (W : World), I pre W → Ax a.tmps x a' W → pre.length < xs.length → body.wpIn (Fence.wide.inRound l) 1 P (ownPostG w.heap.size (Keeps K) I Ix (pre ++ [x]) W) a' W)
    (hdone : ∀ (D : Nat) (W : World), w.heap.size ≤ D → I xs W → W.heap[D]? = some (.deferred (some [])) → Q .normal { a with defers := { target := .collected D, args := #[] } :: a.defers } W)
    (hstop : ∀ (D : Nat) (c : Code) (pre : List α) (W : World), w.heap.size ≤ D → pre <+: xs → Ix c pre W → W.heap[D]? = some (.deferred (some [])) → c.wp P Q { a with defers := { target := .collected D, args := #[] } :: a.defers } W) :
    (Code.rangeFunc g ps assign body).wp P Q a w :=
  (wpIn_wide (n := 3)).1 (wpIn_rangeFunc_ownH rfl (by omega) hg trivial eg (hseq 2) (fun h k => h.trans k)
    (fun W l o o' hl ho hc _ => ⟨by simp, fun k x _ hx hxc => (World.putObj_heap_other (fun e => by subst e; rw [ho] at hx; cases hx; rw [hc] at hxc; cases hxc)).trans hx⟩)
    (Below.refl _ _) hps I Ix (ownFrom_of hI) (fun c => ownFrom_of (hIx c)) h0 (Ax a.tmps) (fun x a' => ownFrom_of (fun _ w1 w2 => hAx x a' w1 w2)) hassign (fun l pre x a' W _ _ hi hax hlt => hbody l pre x a' W hi hax hlt)
    (fun D ys W hD e hi => by subst e; exact hdone D W hD hi) fun D c pre W hD hp hi hk => wpIn_wide.2 (hstop D c pre W hD hp hi hk))

theorem Step.keepsOthers {w w' : World} (h : Step (fun _ => False) w w') : KeepsOthers w w' :=
  ⟨h.size, fun k _ hk _ => (h.block k (Array.getElem?_eq_some_iff.1 hk).1 (fun e => e)).trans hk⟩
end Go.Proofs.Ytcmgjoamfjijhaa
