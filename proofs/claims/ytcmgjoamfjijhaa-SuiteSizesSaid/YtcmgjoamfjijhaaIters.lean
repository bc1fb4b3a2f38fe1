/- Ranges over functions that keep state of their own: the iterator's parts and the body's parts lie apart. Program independent. -/
import Derived.Test.YtcmgjoamfjijhaaEver
import Derived.Test.YtcmgjoamfjijhaaRd
namespace Go.Proofs.Ytcmgjoamfjijhaa
open Go.RowKit
set_option linter.unusedVariables false

/-- Blocks that are left as they are in H. -/
def eOp (O R : Nat → Prop) (H : World) : Ent where
  own := O
  rd := R
  holds w := ∀ i, O i ∨ R i → i < H.heap.size ∧ w.heap[i]? = H.heap[i]?
  isC := false
  lt h k hk := by
    obtain ⟨h1, h2⟩ := h k hk
    rw [Array.getElem?_eq_getElem h1] at h2
    exact (Array.getElem?_eq_some_iff.1 h2).1
  keep h hs hd k hk := by
    obtain ⟨h1, h2⟩ := h k hk
    refine ⟨h1, (hs.block k ?_ (hd k hk)).trans h2⟩
    rw [Array.getElem?_eq_getElem h1] at h2
    exact (Array.getElem?_eq_some_iff.1 h2).1
  cel hc := by cases hc
/-- The loop's own blocks. -/
def eMach (D : Nat) (r : Loop) : Ent where
  own i := i = D ∨ i = D + 1
  rd _ := False
  holds w := Going D r w
  isC := false
  lt h k hk := by
    have := h.lt
    rcases hk with (rfl | rfl) | hk
    · omega
    · exact this
    · exact hk.elim
  keep h hs hd := ⟨(hs.block _ h.lt (hd _ (.inl (.inr rfl)))).trans h.loop, (hs.block _ (by have := h.lt; omega) (hd _ (.inl (.inl rfl)))).trans h.dfr⟩
  cel hc := by cases hc
/-- The block for the rounds' deferred calls. -/
def eDfr (D : Nat) : Ent where
  own i := i = D
  rd _ := False
  holds w := w.heap[D]? = some (.deferred (some []))
  isC := false
  lt h k hk := by
    rcases hk with rfl | hk
    · exact (Array.getElem?_eq_some_iff.1 h).1
    · exact hk.elim
  keep h hs hd := (hs.block _ (Array.getElem?_eq_some_iff.1 h).1 (hd _ (.inl rfl))).trans h
  cel hc := by cases hc
def reads (L : List Ent) (i : Nat) : Prop := ∃ x ∈ L, x.rd i

section
variable {S : Nat → Prop} {w0 w w' : World} {L L' F : List Ent} {X : Ent} {O R O' R' : Nat → Prop}
theorem St.opStep {W0 W1 : World} (h : St S w0 W0 (X :: eOp O R W0 :: L)) (hs : Step O W0 W1) (hO : ∀ i, O' i → (O i ∨ W0.heap.size ≤ i) ∧ i < W1.heap.size) (hR : ∀ i, R' i → (O i ∨ R i ∨ W0.heap.size ≤ i) ∧ i < W1.heap.size) : St S w0 W1 (X :: eOp O' R' W1 :: L) := by
  have hX := h.holds X (by simp)
  have hp := List.pairwise_cons.1 h.apart
  have hp2 := List.pairwise_cons.1 hp.2
  have hXY := hp.1 (eOp O R W0) (by simp)
  have hfO : ∀ i, O i → S i ∨ w0.heap.size ≤ i := fun i hi => h.foot (eOp O R W0) (by simp) i hi
  have hsz := h.step.size
  refine ⟨h.step.trans hs (fun i hi hk => (hfO i hk).resolve_right (by omega)), fun y hy => ?_, fun y hy k hk => ?_, List.pairwise_cons.2 ⟨fun y hy k => ?_, List.pairwise_cons.2 ⟨fun y hy k => ?_, hp2.2⟩⟩⟩
  · rcases List.mem_cons.1 hy with rfl | hy
    · exact y.keep hX hs (fun k hk hk2 => by
        rcases hk with hk | hk
        · exact (hXY k).1 hk (.inl hk2)
        · exact (hXY k).2 hk hk2)
    · rcases List.mem_cons.1 hy with rfl | hy
      · intro i hi
        refine ⟨?_, rfl⟩
        rcases hi with hi | hi
        · exact (hO i hi).2
        · exact (hR i hi).2
      · exact y.keep (h.holds y (by simp [hy])) hs (fun k hk hk2 => (hp2.1 y hy k).1 hk2 hk)
  · rcases List.mem_cons.1 hy with rfl | hy
    · exact h.foot _ (by simp) k hk
    · rcases List.mem_cons.1 hy with rfl | hy
      · rcases (hO k hk).1 with h2 | h2
        · exact hfO k h2
        · exact .inr (by omega)
      · exact h.foot y (by simp [hy]) k hk
  · rcases List.mem_cons.1 hy with rfl | hy
    · refine ⟨fun hx hk => ?_, fun hx hk => ?_⟩
      · have hlt := X.lt hX k (.inl hx)
        rcases hk with hk | hk
        · rcases (hO k hk).1 with h2 | h2
          · exact (hXY k).1 hx (.inl h2)
          · omega
        · rcases (hR k hk).1 with h2 | h2 | h2
          · exact (hXY k).1 hx (.inl h2)
          · exact (hXY k).1 hx (.inr h2)
          · omega
      · have hlt := X.lt hX k (.inr hx)
        rcases (hO k hk).1 with h2 | h2
        · exact (hXY k).2 hx h2
        · omega
    · exact hp.1 y (by simp [hy]) k
  · refine ⟨fun hk hy2 => ?_, fun hk hy2 => ?_⟩
    · have hlt := y.lt (h.holds y (by simp [hy])) k hy2
      rcases (hO k hk).1 with h2 | h2
      · exact (hp2.1 y hy k).1 h2 hy2
      · omega
    · have hlt := y.lt (h.holds y (by simp [hy])) k (.inl hy2)
      rcases (hR k hk).1 with h2 | h2 | h2
      · exact (hp2.1 y hy k).1 h2 (.inl hy2)
      · exact (hp2.1 y hy k).2 h2 hy2
      · omega
/-- Some parts as blocks that are left alone. -/
theorem St.opaque {Li : List Ent} (h : St S w0 w (Li ++ L)) : St S w0 w (eOp (owns Li) (reads Li) w :: L) := by
  have hp := List.pairwise_append.1 h.apart
  refine ⟨h.step, fun y hy => ?_, fun y hy k hk => ?_, List.pairwise_cons.2 ⟨fun y hy k => ⟨fun hk => ?_, fun hk => ?_⟩, hp.2.1⟩⟩
  · rcases List.mem_cons.1 hy with rfl | hy
    · rintro i (⟨x, hx, hi⟩ | ⟨x, hx, hi⟩)
      · exact ⟨x.lt (h.holds x (List.mem_append_left _ hx)) i (.inl hi), rfl⟩
      · exact ⟨x.lt (h.holds x (List.mem_append_left _ hx)) i (.inr hi), rfl⟩
    · exact h.holds y (List.mem_append_right _ hy)
  · rcases List.mem_cons.1 hy with rfl | hy
    · obtain ⟨x, hx, hi⟩ := hk
      exact h.foot x (List.mem_append_left _ hx) k hi
    · exact h.foot y (List.mem_append_right _ hy) k hk
  · obtain ⟨x, hx, hi⟩ := hk
    exact (hp.2.2 x hx y hy k).1 hi
  · obtain ⟨x, hx, hi⟩ := hk
    exact (hp.2.2 x hx y hy k).2 hi
theorem St.own0 {Li : List Ent} (h : St S w0 w (Li ++ L)) : St (owns Li) w w Li := by
  have hp := List.pairwise_append.1 h.apart
  exact ⟨Step.refl _ _, fun x hx => h.holds x (List.mem_append_left _ hx), fun x hx k hk => .inl ⟨x, hx, hk⟩, hp.1⟩
/-- And back. -/
theorem St.unopaque {Li : List Ent} (h : St S w0 w (X :: eOp (owns Li) (reads Li) w' :: L)) (k : St (owns Li) w w Li) : St S w0 w (X :: (Li ++ L)) := by
  have hp := List.pairwise_cons.1 h.apart
  have hp2 := List.pairwise_cons.1 hp.2
  have hXY := hp.1 _ List.mem_cons_self
  refine ⟨h.step, fun y hy => ?_, fun y hy i hi => ?_, List.pairwise_cons.2 ⟨fun y hy i => ?_, List.pairwise_append.2 ⟨k.apart, hp2.2, fun x hx y hy i => ⟨fun hi => (hp2.1 y hy i).1 ⟨x, hx, hi⟩, fun hi => (hp2.1 y hy i).2 ⟨x, hx, hi⟩⟩⟩⟩⟩
  · rcases List.mem_cons.1 hy with rfl | hy
    · exact h.holds _ (by simp)
    · rcases List.mem_append.1 hy with hy | hy
      · exact k.holds y hy
      · exact h.holds y (by simp [hy])
  · rcases List.mem_cons.1 hy with rfl | hy
    · exact h.foot _ (by simp) i hi
    · rcases List.mem_append.1 hy with hy | hy
      · exact h.foot (eOp (owns Li) (reads Li) w') (by simp) i ⟨y, hy, hi⟩
      · exact h.foot y (by simp [hy]) i hi
  · rcases List.mem_append.1 hy with hy | hy
    · refine ⟨fun hx hy2 => (hXY i).1 hx ?_, fun hx hy2 => (hXY i).2 hx ⟨y, hy, hy2⟩⟩
      rcases hy2 with h2 | h2
      · exact .inl ⟨y, hy, h2⟩
      · exact .inr ⟨y, hy, h2⟩
    · exact hp.1 y (by simp [hy]) i
/-- Behind what somebody else has done, the own parts as they were. -/
theorem St.over {Li : List Ent} (h : St S w0 w Li) (hs : Step (fun i => ¬ owns Li i ∧ ¬ reads Li i) w w') : St (owns Li) w' w' Li :=
  ⟨Step.refl _ _, fun x hx => x.keep (h.holds x hx) hs (fun k hk hn => by
    rcases hk with hk | hk
    · exact hn.1 ⟨x, hx, hk⟩
    · exact hn.2 ⟨x, hx, hk⟩), fun x hx k hk => .inl ⟨x, hx, hk⟩, h.apart⟩
theorem St.machStep {D : Nat} {r r' : Loop} (h : St S w0 w (eMach D r :: L)) : St S w0 (w.putObj (D + 1) (.loop r')) (eMach D r' :: L) := by
  have hg : Going D r w := h.holds _ List.mem_cons_self
  refine h.set (e := eMach D r) (k := ⟨.refl _⟩) (eMach D r') ?_ (hg.put r') (fun k hk => .inl hk) (fun _ hk => hk)
  exact ⟨rfl, rfl, rfl, by simp [World.putObj], fun k _ hk => World.putObj_heap_other (fun e => hk (.inr e))⟩
theorem St.machDone {D : Nat} {r : Loop} (h : St S w0 w (eMach D r :: L)) : St S w0 w (eDfr D :: L) :=
  have hg : Going D r w := h.holds _ List.mem_cons_self
  h.recast (e := eMach D r) (k := ⟨.refl _⟩) (eDfr D) hg.dfr (fun k hk => .inl hk) (fun _ hk => hk)
/-- Behind the return. -/
theorem St.putDfr {D : Nat} (h : St S w0 w L) [k : Slot L (eDfr D) F] : St S w0 (w.putObj D (.deferred none)) F := by
  have h1 := h.perm k.perm
  have hp := List.pairwise_cons.1 h1.apart
  have hs : Step (fun i => i = D) w (w.putObj D (.deferred none)) := ⟨rfl, rfl, rfl, by simp [World.putObj], fun k _ hk => World.putObj_heap_other (fun e => hk e)⟩
  refine ⟨h1.step.trans hs (fun i hi hk => ?_), fun y hy => y.keep (h1.holds y (by simp [hy])) hs (fun k hk e => (hp.1 y hy k).1 e hk), fun y hy => h1.foot y (by simp [hy]), hp.2⟩
  rcases h1.foot _ List.mem_cons_self i hk with h2 | h2
  · exact h2
  · omega
theorem St.opAgain (h : St S w0 w (X :: eOp O R w' :: L)) : St S w0 w (X :: eOp O R w :: L) := by
  have h2 := h.perm (.swap (eOp O R w') X L)
  have h3 : (eOp O R w').holds w := h2.holds _ List.mem_cons_self
  refine (h2.resay (eOp O R w) (fun i hi => ⟨(eOp O R w').lt h3 i hi, rfl⟩) (fun _ => Iff.rfl) (fun _ hk => hk)).perm (.swap X (eOp O R w) L)
theorem St.dfr {D : Nat} (h : St S w0 w L) [k : Slot L (eDfr D) F] : w.heap[D]? = some (.deferred (some [])) := h.get (k := k)
end

/-- How a round's body is left. -/
def leftAs (J : World → Prop) (Jx : Code → World → Prop) : Exit → Act → World → Prop
  | .normal, _, W' => J W'
  | .ret, _, W' => Jx .ret W'
  | .exit id, _, W' => Jx (.exit id) W'
  | .goto t, _, W' => Jx (.goto t) W'
  | .panic _, _, _ => False
  | .outgrown, _, _ => False

/-- How an iterator ends. -/
def IterEnd {α : Type} (fin : List α → Bool → List Ent → Prop) (J Jx : List α → (Nat → Prop) → (Nat → Prop) → World → Prop) (e : Ending) (W' : World) : Prop :=
  (∃ v, e = .returned v) ∧ ∃ pre Lf stopped, fin pre stopped Lf ∧ St (owns Lf) W' W' Lf ∧ (if stopped = true then Jx pre (owns Lf) (reads Lf) W' else J pre (owns Lf) (reads Lf) W')
theorem IterEnd.ends {α : Type} {fin : List α → Bool → List Ent → Prop} {J Jx : List α → (Nat → Prop) → (Nat → Prop) → World → Prop} {v : Value} {W' : World} {pre : List α} {Lf : List Ent} (hf : fin pre false Lf) (hs : St (owns Lf) W' W' Lf) (hj : J pre (owns Lf) (reads Lf) W') : IterEnd fin J Jx (.returned v) W' :=
  ⟨⟨v, rfl⟩, pre, Lf, false, hf, hs, hj⟩
theorem IterEnd.stops {α : Type} {fin : List α → Bool → List Ent → Prop} {J Jx : List α → (Nat → Prop) → (Nat → Prop) → World → Prop} {v : Value} {W' : World} {pre : List α} {Lf : List Ent} (hf : fin pre true Lf) (hs : St (owns Lf) W' W' Lf) (hj : Jx pre (owns Lf) (reads Lf) W') : IterEnd fin J Jx (.returned v) W' :=
  ⟨⟨v, rfl⟩, pre, Lf, true, hf, hs, hj⟩
/-- An iterator with the parts Li: it tells what ok lets it tell, and ends (or is stopped) with parts that fin says. -/
def Iters {α : Type} (P : Program) (g : Nat) (lb : Array Value) (encs : α → Array Value) (ok : List α → α → (Nat → Prop) → (Nat → Prop) → World → Prop) (fin : List α → Bool → List Ent → Prop) (Li : List Ent) : Prop :=
  ∀ (n l : Nat) (J Jx : List α → (Nat → Prop) → (Nat → Prop) → World → Prop) (W : World), St (owns Li) W W Li →
    (∀ pre O R O' R' W0 W1, J pre O R W0 → Step O W0 W1 → (∀ i, O' i → (O i ∨ W0.heap.size ≤ i) ∧ i < W1.heap.size) → (∀ i, R' i → (O i ∨ R i ∨ W0.heap.size ≤ i) ∧ i < W1.heap.size) → J pre O' R' W1) →
    (∀ pre O R O' R' W0 W1, Jx pre O R W0 → Step O W0 W1 → (∀ i, O' i → (O i ∨ W0.heap.size ≤ i) ∧ i < W1.heap.size) → (∀ i, R' i → (O i ∨ R i ∨ W0.heap.size ≤ i) ∧ i < W1.heap.size) → Jx pre O' R' W1) →
    (∀ pre x O R W1, J pre O R W1 → ok pre x O R W1 → YieldAt Fence.wide (n - 1) P l (encs x) W1 fun e W' =>
      Step (fun i => ¬ O i ∧ ¬ R i) W1 W' ∧ ((e = .returned (.bool true) ∧ J (pre ++ [x]) O R W') ∨ (e = .returned (.bool false) ∧ Jx (pre ++ [x]) O R W'))) →
    J [] (owns Li) (reads Li) W → CallsIn Fence.wide n P g (#[.func (.yield l) #[] #[]] ++ lb) W (IterEnd fin J Jx)

section
variable {P : Program}
/-- One round. -/
theorem yield_machine {F : Fence} {n : Nat} {D : Nat} {r : Loop} {args : Array Value} {W : World} {J : World → Prop} {Jx : Code → World → Prop} (hfn : F.fn r.fn) (hG : Going D r W) (hr : r.state = .ready) (hsz : args.size = r.params.size) (A : Act → World → Prop)
    (hassign : r.assign.wpIn (F.inRound (D + 1)) n P (Exit.then (fun a' W' => A a' W' ∧ Going D r W') (fun _ _ _ => False)) { tmps := (r.params.zip args).foldl (fun t (p, v) => t.setIfInBounds p v) r.tmps, defers := [] } W)
    (hbody : ∀ a' W', A a' W' → r.body.wpIn (F.inRound (D + 1)) n P (leftAs (fun W3 => J W3 ∧ Going D { r with state := .busy } W3) (fun c W3 => Jx c W3 ∧ Going D { r with state := .busy } W3)) a' (W'.putObj (D + 1) (.loop { r with state := .busy }))) :
    YieldAt F n P (D + 1) args W fun e W' => (e = .returned (.bool true) ∧ ∃ W3, J W3 ∧ Going D { r with state := .busy } W3 ∧ W' = W3.putObj (D + 1) (.loop { r with state := .ready, pending := none })) ∨
      (e = .returned (.bool false) ∧ ∃ c W3, Jx c W3 ∧ Going D { r with state := .busy } W3 ∧ W' = W3.putObj (D + 1) (.loop { r with state := .done, pending := some c })) := by
  refine ⟨_, _, _, _, run_yield hG.loop hsz, roundIn_of_wpIn hfn (wpIn_mono hassign ?_)⟩
  rintro e a1 W1 hp
  cases e <;> simp only [Exit.then] at hp ⊢ <;> try exact hp.elim
  obtain ⟨hA, hG1⟩ := hp
  refine ⟨_, run_beginRound hG1.loop hr, wpIn_mono (hbody a1 W1 hA) ?_⟩
  have stop : ∀ (c : Code) (W3 : World), Jx c W3 → Going D { r with state := .busy } W3 → ∃ v w', (Instr.endRound (D + 1) (some c)).run P W3 = .ok v w' ∧
      (((Ending.returned v : Ending) = .returned (.bool true) ∧ ∃ W3, J W3 ∧ Going D { r with state := .busy } W3 ∧ w' = W3.putObj (D + 1) (.loop { r with state := .ready, pending := none })) ∨
        ((Ending.returned v : Ending) = .returned (.bool false) ∧ ∃ c W3, Jx c W3 ∧ Going D { r with state := .busy } W3 ∧ w' = W3.putObj (D + 1) (.loop { r with state := .done, pending := some c }))) := fun c W3 hj hg =>
    ⟨_, _, run_endRound (some c) hg.loop, .inr ⟨rfl, c, W3, hj, hg, rfl⟩⟩
  rintro e a3 W3 hp
  cases e with
  | normal => exact ⟨_, _, run_endRound none hp.2.loop, .inl ⟨rfl, W3, hp.1, hp.2, rfl⟩⟩
  | ret => exact stop .ret W3 hp.1 hp.2
  | exit id => exact stop (.exit id) W3 hp.1 hp.2
  | goto t => exact stop (.goto t) W3 hp.1 hp.2
  | panic ch => exact hp.elim
  | outgrown => exact hp.elim
theorem St.mach {S : Nat → Prop} {w0 w : World} {L : List Ent} {D : Nat} {r : Loop} (h : St S w0 w (eMach D r :: L)) : Going D r w := h.holds _ List.mem_cons_self
/-- A part that has not been touched since H is as it was. -/
theorem St.opSame {S : Nat → Prop} {w0 w H : World} {L : List Ent} {X : Ent} {O R : Nat → Prop} (h : St S w0 w (X :: eOp O R H :: L)) : ∀ i, O i ∨ R i → w.heap[i]? = H.heap[i]? := fun i hi => ((show (eOp O R H).holds w from h.holds _ (by simp)) i hi).2

theorem wp_iter {α : Type} {g : Operand} {ps : Array Tmp} {assign body : Code} {Q : Exit → Act → World → Prop} {a : Act} {w : World} {gf : Nat} {lb : Array Value} (hg : a.eval g = .func (.func gf) #[] lb)
    (eg : ∀ args w, (callFunc gf args).run P w = .ok (.enter gf args) w) {encs : α → Array Value} {ok : List α → α → (Nat → Prop) → (Nat → Prop) → World → Prop} {fin : List α → Bool → List Ent → Prop} {Li : List Ent} (hseq : Iters P gf lb encs ok fin Li) (hps : ∀ x, (encs x).size = ps.size)
    {S : Nat → Prop} {w0 : World} {L0 : List Ent} (h : St S w0 w (Li ++ L0)) (M : List α → List Ent → Prop) (Mx : Code → List α → List Ent → Prop) (Ax : Array Value → List α → α → Act → List Ent → Prop) (h0 : M [] L0)
    (hassign : ∀ (l : Nat) (T : Nat → Prop) (X : Ent) (O R : Nat → Prop) (pre : List α) (x : α) (L : List Ent) (W : World), M pre L → ok pre x O R W → St T W W (X :: eOp O R W :: L) →
      assign.wpIn (Fence.wide.inRound l) 1 P (Exit.then (fun a' W' => ∃ L', Ax a.tmps pre x a' L' ∧ St T W W' (X :: eOp O R W :: L')) (fun _ _ _ => False)) { tmps := (ps.zip (encs x)).foldl (fun t (p, v) => t.setIfInBounds p v) a.tmps, defers := [] } W)
    (hbody : ∀ (l : Nat) (T : Nat → Prop) (X : Ent) (O R : Nat → Prop) (pre : List α) (x : α) (a' : Act) (L : List Ent) (W W2 : World), Ax a.tmps pre x a' L → ok pre x O R W → St T W W2 (X :: eOp O R W :: L) →
      body.wpIn (Fence.wide.inRound l) 1 P (leftAs (fun W' => ∃ L', M (pre ++ [x]) L' ∧ St T W W' (X :: eOp O R W :: L')) (fun c W' => ∃ L', Mx c (pre ++ [x]) L' ∧ St T W W' (X :: eOp O R W :: L'))) a' W2)
    (hdone : ∀ (D : Nat) (pre : List α) (L Lf : List Ent) (W : World), M pre L → fin pre false Lf → St S w0 W (eDfr D :: (Lf ++ L)) → Q .normal { a with defers := { target := .collected D, args := #[] } :: a.defers } W)
    (hstop : ∀ (D : Nat) (c : Code) (pre : List α) (L Lf : List Ent) (W : World), Mx c pre L → fin pre true Lf → St S w0 W (eDfr D :: (Lf ++ L)) → c.wp P Q { a with defers := { target := .collected D, args := #[] } :: a.defers } W) :
    (Code.rangeFunc g ps assign body).wp P Q a w := by
  refine (wpIn_wide (n := 3)).1 (wpIn_rangeFunc fun fn hfn => ?_)
  obtain ⟨r, hr⟩ : ∃ r : Loop, r = { state := .ready, pending := none, fn, tmps := a.tmps, params := ps, assign, body, defers := w.heap.size } := ⟨_, rfl⟩
  have hst : Step (fun _ => False) w ((w.alloc (.deferred (some []))).alloc (.loop r)) := ((Step.refl _ _).alloc _).alloc _
  have hG : Going w.heap.size r ((w.alloc (.deferred (some []))).alloc (.loop r)) :=
    ⟨by have := World.alloc_heap_new (w.alloc (.deferred (some []))) (.loop r); rwa [World.size_alloc] at this, (Below.heap_alloc _ _ _ (by simp)).trans (World.alloc_heap_new w _)⟩
  have hent := run_enterLoop_outer (P := P) (w := w) fn a.tmps ps assign body
  rw [← hr] at hent
  generalize (w.alloc (.deferred (some []))).alloc (.loop r) = W1 at *
  have hLi : St (owns Li) W1 W1 Li := (h.own0.quiet hst).renew
  have hJ0 : St S w0 W1 (eMach w.heap.size r :: eOp (owns Li) (reads Li) W1 :: L0) :=
    (h.opaque.add hst (eMach w.heap.size r) hG (fun k hk => by rcases hk with rfl | rfl <;> omega) (fun _ hk => hk)).opAgain
  generalize w.heap.size = D at *
  refine ⟨D + 1, [{ target := .collected D, args := #[] }], W1, { target := .fn (.func gf) lb, args := #[.func (.yield (D + 1)) #[] #[]] }, W1, gf, #[.func (.yield (D + 1)) #[] #[]] ++ lb, W1,
    hent, by simp only [resolve, hg]; simp [go_sem], fun f' hf' => trivial, by simp [invoke, go_sem, eg], fun _ => by omega, ?_⟩
  refine (hseq 2 (D + 1) (fun pre O R W => ∃ L, M pre L ∧ St S w0 W (eMach D r :: eOp O R W :: L)) (fun pre O R W => ∃ c L, Mx c pre L ∧ St S w0 W (eMach D { r with state := .done, pending := some c } :: eOp O R W :: L)) W1 hLi
    (fun pre O R O' R' W0 W1 ⟨L, h1, h2⟩ hs hO hR => ⟨L, h1, h2.opStep hs hO hR⟩) (fun pre O R O' R' W0 W1 ⟨c, L, h1, h2⟩ hs hO hR => ⟨c, L, h1, h2.opStep hs hO hR⟩) ?_ ⟨L0, h0, hJ0⟩).mono ?_
  · rintro pre x O R Wa ⟨L, hM, hs⟩ hok
    have hb := hs.renew
    obtain ⟨T, hT⟩ : ∃ T, T = owns (eMach D r :: eOp O R Wa :: L) := ⟨_, rfl⟩
    rw [← hT] at hb
    have step : ∀ {r' : Loop} {L' : List Ent} {W' : World}, St T Wa W' (eMach D r' :: eOp O R Wa :: L') → Step (fun i => ¬ O i ∧ ¬ R i) Wa W' := fun {r' L' W'} k => ⟨k.step.os, k.step.tape, k.step.output, k.step.size, fun i hi hn => by
      by_cases h1 : O i ∨ R i
      · exact k.opSame i h1
      · exact absurd ⟨fun h => h1 (.inl h), fun h => h1 (.inr h)⟩ hn⟩
    have hsB : ∀ W', St T Wa W' (eMach D r :: eOp O R Wa :: L) → True := fun _ _ => trivial
    refine YieldAt.mono (yield_machine (J := fun W' => ∃ L', M (pre ++ [x]) L' ∧ St T Wa W' (eMach D { r with state := .busy } :: eOp O R Wa :: L')) (Jx := fun c W' => ∃ L', Mx c (pre ++ [x]) L' ∧ St T Wa W' (eMach D { r with state := .busy } :: eOp O R Wa :: L')) (by rw [hr]; exact hfn) hs.mach (by rw [hr]) (by rw [hr]; exact hps x) (fun a' W' => ∃ L', Ax a.tmps pre x a' L' ∧ St T Wa W' (eMach D r :: eOp O R Wa :: L')) ?_ ?_) ?_
    · have := hassign (D + 1) T (eMach D r) O R pre x L Wa hM hok hb
      rw [hr] at this ⊢
      refine wpIn_mono this ?_
      rintro e a3 W3 hp
      cases e <;> simp only [Exit.then] at hp ⊢ <;> try exact hp
      exact ⟨hp, hp.choose_spec.2.mach⟩
    · rintro a' W' ⟨L', hA, hs'⟩
      have := hbody (D + 1) T (eMach D { r with state := .busy }) O R pre x a' L' Wa _ hA hok (hs'.machStep (r' := { r with state := .busy }))
      rw [hr] at this ⊢
      refine wpIn_mono this ?_
      rintro e a3 W3 hp
      cases e <;> first | exact hp.elim | exact ⟨hp, hp.choose_spec.2.mach⟩
    · rintro e W' (⟨rfl, W3, ⟨L', h1, h2⟩, _, rfl⟩ | ⟨rfl, c, W3, ⟨L', h1, h2⟩, _, rfl⟩)
      · have h3 := h2.machStep (r' := { r with state := .ready, pending := none })
        refine ⟨step h3, .inl ⟨rfl, L', h1, ?_⟩⟩
        have h4 := (hs.back (hT ▸ h3)).opAgain
        rw [hr] at h4 ⊢
        exact h4
      · have h3 := h2.machStep (r' := { r with state := .done, pending := some c })
        exact ⟨step h3, .inr ⟨rfl, c, L', h1, (hs.back (hT ▸ h3)).opAgain⟩⟩
  · rintro e W2 ⟨⟨v, rfl⟩, pre, Lf, stopped, hfin, hLf, hJ⟩
    cases stopped with
    | true =>
      obtain ⟨c, L, hM, hs⟩ := hJ
      refine ⟨some c, _, run_endLoop hs.mach.loop (by simp), wpIn_wide.2 ?_⟩
      exact hstop D c pre L Lf _ hM hfin ((hs.unopaque hLf).machStep.machDone)
    | false =>
      obtain ⟨L, hM, hs⟩ := hJ
      have e := run_endLoop (P := P) hs.mach.loop (by rw [hr]; simp)
      have hp : r.pending = none := by rw [hr]
      rw [hp] at e
      exact ⟨none, _, e, hdone D pre L Lf _ hM hfin ((hs.unopaque hLf).machStep.machDone)⟩
end
end Go.Proofs.Ytcmgjoamfjijhaa
