/- Maps: look-ups, stores, deletions, lengths. Program independent. -/
import Derived.Test.YtcmgjoamfjijhaaMaps
namespace Go.Proofs.Ytcmgjoamfjijhaa
open Go.RowKit Go.Maps
set_option linter.unusedVariables false
set_option linter.unusedSimpArgs false
set_option linter.unusedSectionVars false

section
variable {α β : Type} [DecidableEq α] {P : Program} {ρ : Operand → Value} {o : Oper} {S : Nat → Prop} {w0 w : World} {L F : List Ent} {kv : α → Value} {vv : β → Value} {m : List (α × β)}
theorem St.map (h : St S w0 w L) (b : Nat) {kv : α → Value} {vv : β → Value} {m : List (α × β)} [k : SlotM L b kv vv m F] : (eMap b kv vv m).holds w := (h.perm k.perm).holds _ List.mem_cons_self
/-- What a look-up gives. -/
def mval (z : Value) (vv : β → Value) : Option β → Value
  | some v => vv v
  | none => z
theorem run_mlook (h : St S w0 w L) (t : TypeId) (b : Nat) {k e : TypeId} {z : Value} [T : MapTy P t k e z] [sm : SlotM L b kv vv m F] [K : MapKey P k kv] (a : α) (c : Bool) :
    (Instr.lookup t (.map (some b)) (kv a) c).run P w = .ok (if c then .tuple #[mval z vv (mget m a), .bool (mget m a).isSome] else mval z vv (mget m a)) w := by
  obtain ⟨es, clock, hb, he, hn, _, _⟩ := h.map b (k := sm)
  obtain ⟨l, hl⟩ := K.lit a
  have hz := T.zero w
  rcases map_find (P := P) (k := k) he hn a w with ⟨h1, h2, _⟩ | ⟨j, x, v, h1, _, _, _, h4, h5⟩
  · rw [h2]
    cases c <;> simp [Instr.lookup, run_underlying T.und, MapKept.run_getObj_map hb, K.keyed.check w _ hl, h1, hz, Result.andThen, mval]
  · rw [h5]
    cases c <;> simp [Instr.lookup, run_underlying T.und, MapKept.run_getObj_map hb, K.keyed.check w _ hl, h1, h4, Result.andThen, mval]
theorem ex_mlook (h : St S w0 w L) (t : TypeId) (x y : Operand) (ho : o.op = .lookup t x y false) (b : Nat) (hx : ρ x = .map (some b)) (a : α) (hy : ρ y = kv a) {k e : TypeId} {z : Value} [T : MapTy P t k e z] [sm : SlotM L b kv vv m F] [K : MapKey P k kv] :
    Reads P ρ o w (mval z vv (mget m a)) := by
  refine ⟨by simp [ho], by simp [Oper.about, ho], ?_⟩
  have e1 := run_mlook (P := P) (kv := kv) (vv := vv) (m := m) h t b a false
  unfold execOp
  simp [ho, hx, hy, e1, Result.andThen]
theorem ex_mlook2 (h : St S w0 w L) (t : TypeId) (x y : Operand) (ho : o.op = .lookup t x y true) (b : Nat) (hx : ρ x = .map (some b)) (a : α) (hy : ρ y = kv a) {k e : TypeId} {z : Value} [T : MapTy P t k e z] [sm : SlotM L b kv vv m F] [K : MapKey P k kv] :
    Reads P ρ o w (.tuple #[mval z vv (mget m a), .bool (mget m a).isSome]) := by
  refine ⟨by simp [ho], by simp [Oper.about, ho], ?_⟩
  have e1 := run_mlook (P := P) (kv := kv) (vv := vv) (m := m) h t b a true
  unfold execOp
  simp [ho, hx, hy, e1, Result.andThen]
/-- A look-up in a map that is nil. -/
theorem ex_mnil (t : TypeId) (x y : Operand) (ho : o.op = .lookup t x y false) (hx : ρ x = .map none) (a : α) (hy : ρ y = kv a) {k e : TypeId} {z : Value} [T : MapTy P t k e z] [K : MapKey P k kv] : Reads P ρ o w z := by
  obtain ⟨l, hl⟩ := K.lit a
  have hz := T.zero w
  have hf : (Instr.findKey k (kv a) []).run P w = .ok none w := by
    rcases K.keyed.find w hl [] (by simp) with ⟨h1, _⟩ | ⟨j, e, _, h2, _⟩
    · exact h1
    · cases h2
  refine ⟨by simp [ho], by simp [Oper.about, ho], ?_⟩
  unfold execOp
  simp [ho, hx, hy, Instr.lookup, run_underlying T.und, K.keyed.check w _ hl, hf, hz, Result.andThen]
theorem modify_set {γ : Type} {l : List γ} {j : Nat} {x : γ} (h : l[j]? = some x) (f : γ → γ) : l.modify j f = l.set j (f x) := by
  apply List.ext_getElem?
  intro i
  rw [List.getElem?_modify, List.getElem?_set]
  by_cases hi : j = i
  · subst hi
    obtain ⟨h1, h2⟩ := List.getElem?_eq_some_iff.1 h
    simp [h1, h2]
  · simp [hi]
theorem modify_toList (es : Array MapEntry) (j : Nat) (f : MapEntry → MapEntry) : (es.modify j f).toList = es.toList.modify j f := by simp
theorem run_mput (h : St S w0 w L) (t : TypeId) (b : Nat) {k e : TypeId} {z : Value} [T : MapTy P t k e z] [sm : SlotM L b kv vv m F] [K : MapKey P k kv] (a : α) (v : β) :
    ∃ w', (Instr.mapUpdate t (.map (some b)) (kv a) (vv v)).run P w = .ok () w' ∧ St S w0 w' (eMap b kv vv (mset m a v) :: F) := by
  obtain ⟨es, clock, hb, he, hn, hc, hbn⟩ := h.map b (k := sm)
  have hlt := (Array.getElem?_eq_some_iff.1 hb).1
  obtain ⟨l, hl⟩ := K.lit a
  have step : ∀ o' : Obj, Step (fun i => i = b) w { w with heap := w.heap.setIfInBounds b o' } := fun o' => ⟨rfl, rfl, rfl, by simp, fun i _ hi => by simp [Array.getElem?_setIfInBounds, Ne.symm hi]⟩
  have same : ∀ o' : Obj, ({ w with heap := w.heap.setIfInBounds b o' } : World).heap[b]? = some o' := fun o' => by simp [Array.getElem?_setIfInBounds, hlt]
  rcases map_find (P := P) (k := k) he hn a w with ⟨h1, _, h3⟩ | ⟨j, x, v0, h1, h2, h3, h4, h5, h6⟩
  · refine ⟨_, by simp [Instr.mapUpdate, run_underlying T.und, MapKept.run_getObj_map hb, K.keyed.check w _ hl, h1, MapKept.run_setObj_map _ hb, Result.andThen]; rfl, ?_⟩
    refine h.set (e := eMap b kv vv m) (k := ⟨sm.perm⟩) (eMap b kv vv (mset m a v)) (step _) ⟨_, _, same _, ?_, mset_nodup hn a v, ?_, ?_⟩ (fun i hi => .inl hi) (fun _ hi => hi)
    · rw [mset_new h3, Array.toList_push, List.map_append, List.map_append, he]; rfl
    · intro y hy
      rw [Array.toList_push, List.mem_append] at hy
      rcases hy with hy | hy
      · exact Nat.lt_succ_of_lt (hc y hy)
      · simp at hy; subst hy; exact Nat.lt_succ_self _
    · rw [Array.toList_push, List.map_append]
      refine List.nodup_append.2 ⟨hbn, by simp, ?_⟩
      intro p hp q hq
      simp at hq
      obtain ⟨y, hy, rfl⟩ := List.mem_map.1 hp
      have := hc y hy
      omega
  · have hst := K.keyed.stays w hl
    have h2' : es[j]? = some x := by rw [← Array.getElem?_toList]; exact h2
    refine ⟨_, by simp [Instr.mapUpdate, run_underlying T.und, MapKept.run_getObj_map hb, K.keyed.check w _ hl, h1, h2', h3, hst, MapKept.run_setObj_map _ hb, Result.andThen]; rfl, ?_⟩
    have hj : j < es.toList.length := (List.getElem?_eq_some_iff.1 h2).1
    have hx : es.toList[j] = x := (List.getElem?_eq_some_iff.1 h2).2
    refine h.set (e := eMap b kv vv m) (k := ⟨sm.perm⟩) (eMap b kv vv (mset m a v)) (step _) ⟨_, _, same _, ?_, mset_nodup hn a v, ?_, ?_⟩ (fun i hi => .inl hi) (fun _ hi => hi)
    · rw [modify_toList, modify_set h2, mset_at hn h4 v]
      rw [List.map_set, List.map_set, he]
    · intro y hy
      rw [modify_toList, modify_set h2] at hy
      rcases List.mem_or_eq_of_mem_set hy with hy | rfl
      · exact hc y hy
      · exact hc x (List.mem_of_getElem? h2)
    · rw [modify_toList, modify_set h2]
      rw [List.map_set]
      have e1 : (es.toList.map (·.born)).set j x.born = es.toList.map (·.born) := by
        have : (es.toList.map (·.born))[j]? = some x.born := by rw [List.getElem?_map, h2]; rfl
        apply List.ext_getElem?
        intro i
        rw [List.getElem?_set]
        by_cases hi : j = i
        · subst hi; rw [this]; simp only [List.length_map, hj, if_true]
        · simp [hi]
      rw [e1]
      exact hbn
theorem ex_mput (h : St S w0 w L) (t : TypeId) (x y u : Operand) (ho : o.op = .mapUpdate t x y u) (b : Nat) (hx : ρ x = .map (some b)) (a : α) (hy : ρ y = kv a) (v : β) (hu : ρ u = vv v) {k e : TypeId} {z : Value} [T : MapTy P t k e z] [sm : SlotM L b kv vv m F] [K : MapKey P k kv] :
    Runs P ρ o w fun r w' => r = undef ∧ St S w0 w' (eMap b kv vv (mset m a v) :: F) := by
  obtain ⟨w', hrun, h2⟩ := run_mput h t b a v (P := P) (k := k)
  refine ⟨by simp [ho], by simp [Oper.about, ho], _, w', .inr ⟨?_, rfl⟩, rfl, h2⟩
  unfold execOp
  simp [ho, hx, hy, hu, hrun, Result.andThen]
theorem ex_mmake (h : St S w0 w L) (t : TypeId) (ho : o.op = .makeMap t none) (kv : α → Value) (vv : β → Value) : Runs P ρ o w fun r w' => ∃ b, r = .map (some b) ∧ St S w0 w' (eMap b kv vv ([] : List (α × β)) :: L) := by
  refine ⟨by simp [ho], by simp [Oper.about, ho], .map (some w.heap.size), w.alloc (.map #[] 0), .inl ?_, w.heap.size, rfl, h.add ((Step.refl _ _).alloc _) (eMap w.heap.size kv vv []) ⟨#[], 0, World.alloc_heap_new _ _, by simp, by simp, by simp, by simp⟩ (fun i hi => by have e : i = w.heap.size := hi; omega) (fun _ hi => hi)⟩
  unfold execOp
  simp [ho, run_makeMap, Result.andThen]
theorem map_erase {γ δ : Type} (f : γ → δ) (l : List γ) (j : Nat) : (l.eraseIdx j).map f = (l.map f).eraseIdx j := by simp [List.eraseIdx_eq_take_drop_succ]
theorem run_mdel (h : St S w0 w L) (t ty k2 : TypeId) (b : Nat) {k e : TypeId} {z : Value} [T : MapTy P t k e z] [sm : SlotM L b kv vv m F] [K : MapKey P k kv] (a : α) :
    ∃ w', (Builtin.delete_ #[t, k2] ty #[.map (some b), kv a]).run P w = .ok (.tuple #[]) w' ∧ St S w0 w' (eMap b kv vv (mdel m a) :: F) := by
  obtain ⟨es, clock, hb, he, hn, hc, hbn⟩ := h.map b (k := sm)
  have hlt := (Array.getElem?_eq_some_iff.1 hb).1
  obtain ⟨l, hl⟩ := K.lit a
  have step : ∀ o' : Obj, Step (fun i => i = b) w { w with heap := w.heap.setIfInBounds b o' } := fun o' => ⟨rfl, rfl, rfl, by simp, fun i _ hi => by simp [Array.getElem?_setIfInBounds, Ne.symm hi]⟩
  have same : ∀ o' : Obj, ({ w with heap := w.heap.setIfInBounds b o' } : World).heap[b]? = some o' := fun o' => by simp [Array.getElem?_setIfInBounds, hlt]
  rcases map_find (P := P) (k := k) he hn a w with ⟨h1, _, h3⟩ | ⟨j, x, v0, h1, h2, h3, h4, h5, h6⟩
  · refine ⟨_, by simp [Builtin.delete_, run_underlying T.und, MapKept.run_getObj_map hb, K.keyed.check w _ hl, h1, MapKept.run_setObj_map _ hb, Result.andThen]; rfl, ?_⟩
    exact h.set (e := eMap b kv vv m) (k := ⟨sm.perm⟩) (eMap b kv vv (mdel m a)) (step _) ⟨_, _, same _, by rw [mdel_none h3]; exact he, mdel_nodup hn a, hc, hbn⟩ (fun i hi => .inl hi) (fun _ hi => hi)
  · refine ⟨_, by simp [Builtin.delete_, run_underlying T.und, MapKept.run_getObj_map hb, K.keyed.check w _ hl, h1, MapKept.run_setObj_map _ hb, Result.andThen]; rfl, ?_⟩
    refine h.set (e := eMap b kv vv m) (k := ⟨sm.perm⟩) (eMap b kv vv (mdel m a)) (step _) ⟨_, _, same _, ?_, mdel_nodup hn a, ?_, ?_⟩ (fun i hi => .inl hi) (fun _ hi => hi)
    · rw [mdel_at hn h4, Array.toList_eraseIdxIfInBounds, map_erase, map_erase, he]
    · intro y hy
      rw [Array.toList_eraseIdxIfInBounds] at hy
      exact hc y (List.mem_of_mem_eraseIdx hy)
    · rw [Array.toList_eraseIdxIfInBounds]
      exact hbn.sublist ((List.eraseIdx_sublist _ _).map _)
theorem ex_mdel (h : St S w0 w L) (x y : Operand) (t k2 : TypeId) (ho : o.op = .call { callee := .builtin .delete, args := #[x, y], argTypes := #[t, k2] }) (b : Nat) (hx : ρ x = .map (some b)) (a : α) (hy : ρ y = kv a) {k e : TypeId} {z : Value} [T : MapTy P t k e z] [sm : SlotM L b kv vv m F] [K : MapKey P k kv] :
    Runs P ρ o w fun r w' => St S w0 w' (eMap b kv vv (mdel m a) :: F) := by
  obtain ⟨w', hrun, h2⟩ := run_mdel h t o.type k2 b a (P := P) (k := k) (kv := kv) (vv := vv) (m := m)
  refine ⟨by simp [ho], by simp [Oper.about, ho, resolve, Target.leads], .tuple #[], w', .inl ?_, h2⟩
  unfold execOp
  simp only [ho, resolve, invoke, builtin, Sem.run_bind, Sem.run_pure, Result.andThen_ok, List.map_toArray, List.map_cons, List.map_nil, hx, hy, hrun]
end
end Go.Proofs.Ytcmgjoamfjijhaa
