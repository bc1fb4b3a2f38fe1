/- A range over a function that never ends by itself: the loop's body leaves it. Program independent. -/
import Derived.Test.YtcmgjoamfjijhaaStIter
import Derived.Test.YtcmgjoamfjijhaaReg2
namespace Go.Proofs.Ytcmgjoamfjijhaa
open Go.RowKit
set_option linter.unusedVariables false

theorem Loose.keeps {B : Nat} {w w' : World} (h : Loose B w w') (K : Nat → Prop) : Keeps K w w' :=
  ⟨h.size, fun k o _ ho hc => (h.block k (Array.getElem?_eq_some_iff.1 ho).1 (fun ⟨_, o', ho', hc'⟩ => by
    rw [ho] at ho'
    cases ho'
    rw [hc] at hc'
    cases hc')).trans ho⟩
theorem Loose.mono {B B' : Nat} {w w' : World} (h : Loose B w w') (hB : B' ≤ B) : Loose B' w w' := Step.mono h fun _ _ hk => ⟨Nat.le_trans hB hk.1, hk.2⟩
/-- While the loop goes: its record lies behind the block D of the rounds' deferred calls. -/
structure Going (D : Nat) (r : Loop) (W : World) : Prop where
  loop : W.heap[D + 1]? = some (.loop r)
  dfr : W.heap[D]? = some (.deferred (some []))
section
variable {D : Nat} {r : Loop} {W W' : World}
theorem Going.lt (h : Going D r W) : D + 1 < W.heap.size := (Array.getElem?_eq_some_iff.1 h.loop).1
theorem Going.keep (h : Going D r W) (k : KeepsFrom D W W') : Going D r W' := ⟨k.same _ _ (by omega) h.loop rfl, k.same _ _ (Nat.le_refl _) h.dfr rfl⟩
theorem Going.step (h : Going D r W) (k : Step (fun _ => False) W W') : Going D r W' := h.keep (k.keepsFrom (fun _ _ h => h.elim))
theorem Going.put (h : Going D r W) (r' : Loop) : Going D r' (W.putObj (D + 1) (.loop r')) := ⟨World.putObj_heap_same h.lt, (World.putObj_heap_other (by omega)).trans h.dfr⟩
theorem Going.loose (h : Going D r W) (r' : Loop) : Loose D W (W.putObj (D + 1) (.loop r')) := loose_put (o := .loop r) _ (by omega) h.loop rfl
end
/-- How a round's body is left. -/
def leftBy (D : Nat) (J : World → Prop) (Jx : Code → World → Prop) (W : World) : Exit → Act → World → Prop
  | .normal, _, W' => KeepsFrom D W W' ∧ J W'
  | .ret, _, W' => KeepsFrom D W W' ∧ Jx .ret W'
  | .exit id, _, W' => KeepsFrom D W W' ∧ Jx (.exit id) W'
  | .goto t, _, W' => KeepsFrom D W W' ∧ Jx (.goto t) W'
  | .panic _, _, _ => False
  | .outgrown, _, _ => False
section
variable {P : Program}
/-- One round. -/
theorem yield_going {F : Fence} {n : Nat} {D : Nat} {r : Loop} {args : Array Value} {W : World} {J : World → Prop} {Jx : Code → World → Prop} (hfn : F.fn r.fn) (hG : Going D r W) (hr : r.state = .ready) (hsz : args.size = r.params.size) (a₁ : Act)
    (hassign : ∀ M : Act → World → Prop, M a₁ W → r.assign.wpIn (F.inRound (D + 1)) n P (Exit.then M (fun _ _ _ => False)) { tmps := (r.params.zip args).foldl (fun t (p, v) => t.setIfInBounds p v) r.tmps, defers := [] } W)
    (hbody : ∀ W2, Loose D W W2 → r.body.wpIn (F.inRound (D + 1)) n P (leftBy D J Jx W2) a₁ W2) :
    YieldAt F n P (D + 1) args W fun e W' => (e = .returned (.bool true) ∧ ∃ W3, J W3 ∧ Loose D W3 W' ∧ Going D { r with state := .ready, pending := none } W') ∨
      (e = .returned (.bool false) ∧ ∃ c W3, Jx c W3 ∧ Loose D W3 W' ∧ Going D { r with state := .done, pending := some c } W') := by
  refine ⟨_, _, _, _, run_yield hG.loop hsz, roundIn_of_wpIn hfn (hassign _ ⟨_, run_beginRound hG.loop hr, wpIn_mono (hbody _ (hG.loose _)) ?_⟩)⟩
  have hB := hG.put { r with state := .busy }
  have stop : ∀ (c : Code) (W3 : World), KeepsFrom D (W.putObj (D + 1) (.loop { r with state := .busy })) W3 → Jx c W3 → ∃ v w', (Instr.endRound (D + 1) (some c)).run P W3 = .ok v w' ∧
      (((Ending.returned v : Ending) = .returned (.bool true) ∧ ∃ W3, J W3 ∧ Loose D W3 w' ∧ Going D { r with state := .ready, pending := none } w') ∨
        ((Ending.returned v : Ending) = .returned (.bool false) ∧ ∃ c W3, Jx c W3 ∧ Loose D W3 w' ∧ Going D { r with state := .done, pending := some c } w')) := fun c W3 hk hj =>
    ⟨_, _, run_endRound (some c) (hB.keep hk).loop, .inr ⟨rfl, c, W3, hj, (hB.keep hk).loose _, (hB.keep hk).put _⟩⟩
  rintro e a3 W3 hp
  cases e with
  | normal => exact ⟨_, _, run_endRound none (hB.keep hp.1).loop, .inl ⟨rfl, W3, hp.2, (hB.keep hp.1).loose _, (hB.keep hp.1).put _⟩⟩
  | ret => exact stop .ret W3 hp.1 hp.2
  | exit id => exact stop (.exit id) W3 hp.1 hp.2
  | goto t => exact stop (.goto t) W3 hp.1 hp.2
  | panic ch => exact hp.elim
  | outgrown => exact hp.elim

/-- An iterator without an end: before each round it lays what C says, and wants K x kept behind it. -/
def Ever {α : Type} (P : Program) (g : Nat) (lb : Array Value) (encs : α → Array Value) (C : Nat → α → World → World → Prop) (K : α → Nat → Prop) (M : Nat) (w : World) : Prop :=
  ∀ (n l : Nat) (J Jx : Nat → World → Prop) (W : World), Below w.heap.size w W → (∀ k W, J k W → k ≤ M) →
    (∀ k x W0 W1, J k W0 → Step (fun _ => False) W0 W1 → C k x W0 W1 → YieldAt Fence.wide (n - 1) P l (encs x) W1 fun e W' =>
      (e = .returned (.bool true) ∧ J (k + 1) W' ∧ Keeps (K x) W1 W') ∨ (e = .returned (.bool false) ∧ Jx (k + 1) W')) →
    J 0 W → CallsIn Fence.wide n P g (#[.func (.yield l) #[] #[]] ++ lb) W fun e W' => (∃ v, e = .returned v) ∧ ∃ k, Jx k W'

theorem wp_range_ever {α : Type} {g : Operand} {ps : Array Tmp} {assign body : Code} {Q : Exit → Act → World → Prop} {a : Act} {w : World} {gf : Nat} {lb : Array Value} (hg : a.eval g = .func (.func gf) #[] lb)
    (eg : ∀ args w, (callFunc gf args).run P w = .ok (.enter gf args) w) {encs : α → Array Value} {C : Nat → α → World → World → Prop} {K : α → Nat → Prop} {M : Nat} (hseq : Ever P gf lb encs C K M w) (hps : ∀ x, (encs x).size = ps.size)
    (I : Nat → World → Prop) (Ix : Code → Nat → World → Prop) (hI : ∀ k w1 w2, I k w1 → Loose w.heap.size w1 w2 → I k w2) (hIx : ∀ c k w1 w2, Ix c k w1 → Loose w.heap.size w1 w2 → Ix c k w2) (hM : ∀ k W, I k W → k ≤ M) (h0 : I 0 w) (a₁ : α → Act)
    (hassign : ∀ (l : Nat) (x : α) (W : World) (K : Act → World → Prop), K (a₁ x) W →
      assign.wpIn (Fence.wide.inRound l) 1 P (Exit.then K (fun _ _ _ => False)) { tmps := (ps.zip (encs x)).foldl (fun t (p, v) => t.setIfInBounds p v) a.tmps, defers := [] } W)
    (hbody : ∀ (l k : Nat) (x : α) (W0 W1 W2 : World), I k W0 → Step (fun _ => False) W0 W1 → C k x W0 W1 → Loose w.heap.size W1 W2 →
      body.wpIn (Fence.wide.inRound l) 1 P (leftBy w.heap.size (fun W' => Keeps (K x) W2 W' ∧ I (k + 1) W') (fun c W' => Ix c (k + 1) W') W2) (a₁ x) W2)
    (hstop : ∀ (D : Nat) (c : Code) (k : Nat) (W : World), w.heap.size ≤ D → Ix c k W → W.heap[D]? = some (.deferred (some [])) → c.wp P Q { a with defers := { target := .collected D, args := #[] } :: a.defers } W) :
    (Code.rangeFunc g ps assign body).wp P Q a w := by
  refine (wpIn_wide (n := 3)).1 (wpIn_rangeFunc fun fn hfn => ?_)
  obtain ⟨r, hr⟩ : ∃ r : Loop, r = { state := .ready, pending := none, fn, tmps := a.tmps, params := ps, assign, body, defers := w.heap.size } := ⟨_, rfl⟩
  have hla : Loose w.heap.size w ((w.alloc (.deferred (some []))).alloc (.loop r)) := ((Step.refl _ _).alloc _).alloc _
  have hG : Going w.heap.size r ((w.alloc (.deferred (some []))).alloc (.loop r)) :=
    ⟨by have := World.alloc_heap_new (w.alloc (.deferred (some []))) (.loop r); rwa [World.size_alloc] at this, (Below.heap_alloc _ _ _ (by simp)).trans (World.alloc_heap_new w _)⟩
  have hI0 := hI _ _ _ h0 hla
  have hbel : Below w.heap.size w ((w.alloc (.deferred (some []))).alloc (.loop r)) := ((Below.refl _ w).alloc (Nat.le_refl _) _).alloc (by simp) _
  have hent := run_enterLoop_outer (P := P) (w := w) fn a.tmps ps assign body
  rw [← hr] at hent
  generalize (w.alloc (.deferred (some []))).alloc (.loop r) = W1 at *
  refine ⟨w.heap.size + 1, [{ target := .collected w.heap.size, args := #[] }], W1, { target := .fn (.func gf) lb, args := #[.func (.yield (w.heap.size + 1)) #[] #[]] }, W1, gf, #[.func (.yield (w.heap.size + 1)) #[] #[]] ++ lb, W1,
    hent, by simp only [resolve, hg]; simp [go_sem], fun f' hf' => trivial, by simp [invoke, go_sem, eg], fun _ => by omega, ?_⟩
  refine (hseq 2 (w.heap.size + 1) (fun k W => I k W ∧ Going w.heap.size r W) (fun k W => ∃ c, Ix c k W ∧ Going w.heap.size { r with state := .done, pending := some c } W) W1 hbel (fun k W h => hM k W h.1) ?_ ⟨hI0, hG⟩).mono ?_
  · rintro k x W0 W1 ⟨hi, hg0⟩ hst hC
    have hg1 := hg0.step hst
    refine YieldAt.mono (yield_going (J := fun W' => ∃ W2, Loose w.heap.size W1 W2 ∧ Keeps (K x) W2 W' ∧ I (k + 1) W') (Jx := fun c W' => Ix c (k + 1) W') (by rw [hr]; exact hfn) hg1 (by rw [hr]) (by rw [hr]; exact hps x) (a₁ x) ?_ ?_) ?_
    · intro M hM
      rw [hr]
      exact hassign _ x W1 M hM
    · intro W2 hl2
      rw [hr]
      refine wpIn_mono (hbody _ k x W0 W1 W2 hi hst hC hl2) ?_
      intro e a' W' hp
      cases e <;> first | exact hp.elim | exact ⟨hp.1, W2, hl2, hp.2⟩ | exact hp
    · rintro e W' (⟨rfl, W3, ⟨W2, hl2, hk, hi3⟩, hl3, hg3⟩ | ⟨rfl, c, W3, hx, hl3, hg3⟩)
      · refine .inl ⟨rfl, ⟨hI _ _ _ hi3 hl3, ?_⟩, (hl2.keeps _).trans (hk.trans (hl3.keeps _))⟩
        rw [hr] at hg3 ⊢
        exact hg3
      · exact .inr ⟨rfl, c, hIx _ _ _ _ hx hl3, hg3⟩
  · rintro e W2 ⟨⟨v, rfl⟩, k, c, hx, hg2⟩
    exact ⟨some c, _, run_endLoop hg2.loop (by simp), wpIn_wide.2 (hstop _ c k _ (Nat.le_refl _) (hIx _ _ _ _ hx (hg2.loose _)) (hg2.put _).dfr)⟩
/-- The same, where the round's slots are named: 'ups x' says what each of them holds. -/
theorem wp_range_ever_at {α : Type} {g : Operand} {ps : Array Tmp} {assign body : Code} {Q : Exit → Act → World → Prop} {a : Act} {w : World} {gf : Nat} {lb : Array Value} (hg : a.eval g = .func (.func gf) #[] lb)
    (eg : ∀ args w, (callFunc gf args).run P w = .ok (.enter gf args) w) {encs : α → Array Value} {C : Nat → α → World → World → Prop} {K : α → Nat → Prop} {M : Nat} (hseq : Ever P gf lb encs C K M w) (hps : ∀ x, (encs x).size = ps.size) (ups : α → List (Nat × Value))
    (I : Nat → World → Prop) (Ix : Code → Nat → World → Prop) (hI : ∀ k w1 w2, I k w1 → Loose w.heap.size w1 w2 → I k w2) (hIx : ∀ c k w1 w2, Ix c k w1 → Loose w.heap.size w1 w2 → Ix c k w2) (hM : ∀ k W, I k W → k ≤ M) (h0 : I 0 w)
    (hassign : ∀ (l : Nat) (x : α) (W : World) (K : Act → World → Prop), K { tmps := (ups x).foldl (fun t p => t.setIfInBounds p.1 p.2) a.tmps, defers := [] } W →
      assign.wpIn (Fence.wide.inRound l) 1 P (Exit.then K (fun _ _ _ => False)) { tmps := (ps.zip (encs x)).foldl (fun t (p, v) => t.setIfInBounds p v) a.tmps, defers := [] } W)
    (hbody : ∀ (l k : Nat) (x : α) (W0 W1 W2 : World), I k W0 → Step (fun _ => False) W0 W1 → C k x W0 W1 → Loose w.heap.size W1 W2 →
      body.wpIn (Fence.wide.inRound l) 1 P (leftBy w.heap.size (fun W' => Keeps (K x) W2 W' ∧ I (k + 1) W') (fun c W' => Ix c (k + 1) W') W2) { tmps := (ups x).foldl (fun t p => t.setIfInBounds p.1 p.2) a.tmps, defers := [] } W2)
    (hstop : ∀ (D : Nat) (c : Code) (k : Nat) (W : World), w.heap.size ≤ D → Ix c k W → W.heap[D]? = some (.deferred (some [])) → c.wp P Q { a with defers := { target := .collected D, args := #[] } :: a.defers } W) :
    (Code.rangeFunc g ps assign body).wp P Q a w :=
  wp_range_ever hg eg hseq hps I Ix hI hIx hM h0 (fun x => { tmps := (ups x).foldl (fun t p => t.setIfInBounds p.1 p.2) a.tmps, defers := [] }) hassign hbody hstop
end
end Go.Proofs.Ytcmgjoamfjijhaa
