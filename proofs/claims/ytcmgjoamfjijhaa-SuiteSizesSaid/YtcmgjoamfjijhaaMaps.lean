/- Maps as parts of memory: what lies in them, as a list of pairs. Program independent. -/
import Derived.Test.YtcmgjoamfjijhaaIters
import Derived.Maps.Own
namespace Go.Proofs.Ytcmgjoamfjijhaa
open Go.RowKit Go.Maps
set_option linter.unusedVariables false
set_option linter.unusedSimpArgs false
set_option linter.unusedSectionVars false

/-! ### Lists of pairs -/
section
variable {α β : Type} [DecidableEq α]
def mget (m : List (α × β)) (a : α) : Option β := (m.find? fun p => decide (p.1 = a)).map (·.2)
def mset (m : List (α × β)) (a : α) (v : β) : List (α × β) := match m with
  | [] => [(a, v)]
  | p :: m => if p.1 = a then (a, v) :: m else p :: mset m a v
def mdel (m : List (α × β)) (a : α) : List (α × β) := m.filter fun p => decide (p.1 ≠ a)
def MNodup (m : List (α × β)) : Prop := (m.map (·.1)).Nodup
theorem mget_nil (a : α) : mget ([] : List (α × β)) a = none := rfl
theorem mget_cons (p : α × β) (m : List (α × β)) (a : α) : mget (p :: m) a = if p.1 = a then some p.2 else mget m a := by
  unfold mget
  rw [List.find?_cons]
  by_cases h : p.1 = a <;> simp [h]
theorem mget_none {m : List (α × β)} {a : α} : mget m a = none ↔ ∀ p ∈ m, p.1 ≠ a := by
  induction m with
  | nil => simp [mget_nil]
  | cons p m ih =>
    rw [mget_cons]
    by_cases h : p.1 = a
    · simp [h]
    · simp [h, ih]
theorem mget_at {m : List (α × β)} (hn : MNodup m) {j : Nat} {p : α × β} (hj : m[j]? = some p) : mget m p.1 = some p.2 := by
  induction m generalizing j with
  | nil => simp at hj
  | cons q m ih =>
    rw [mget_cons]
    have hn2 : q.1 ∉ m.map (·.1) ∧ (m.map (·.1)).Nodup := List.nodup_cons.1 hn
    cases j with
    | zero => simp at hj; subst hj; simp
    | succ j =>
      simp at hj
      have hmem : p.1 ∈ m.map (·.1) := List.mem_map_of_mem (List.mem_of_getElem? hj)
      have : q.1 ≠ p.1 := fun e => hn2.1 (e ▸ hmem)
      rw [if_neg this]
      exact ih hn2.2 hj
theorem mset_at {m : List (α × β)} (hn : MNodup m) {j : Nat} {p : α × β} (hj : m[j]? = some p) (v : β) : mset m p.1 v = m.set j (p.1, v) := by
  induction m generalizing j with
  | nil => simp at hj
  | cons q m ih =>
    have hn2 : q.1 ∉ m.map (·.1) ∧ (m.map (·.1)).Nodup := List.nodup_cons.1 hn
    cases j with
    | zero => simp at hj; subst hj; simp [mset]
    | succ j =>
      simp at hj
      have hmem : p.1 ∈ m.map (·.1) := List.mem_map_of_mem (List.mem_of_getElem? hj)
      have : q.1 ≠ p.1 := fun e => hn2.1 (e ▸ hmem)
      simp [mset, this, ih hn2.2 hj]
theorem mset_new {m : List (α × β)} {a : α} (h : ∀ p ∈ m, p.1 ≠ a) (v : β) : mset m a v = m ++ [(a, v)] := by
  induction m with
  | nil => rfl
  | cons p m ih => simp [mset, h p (by simp), ih (fun q hq => h q (by simp [hq]))]
theorem mset_keys (m : List (α × β)) (a : α) (v : β) : ∀ b, b ∈ (mset m a v).map (·.1) ↔ b = a ∨ b ∈ m.map (·.1) := by
  intro b
  induction m with
  | nil => simp [mset]
  | cons p m ih =>
    unfold mset
    by_cases h : p.1 = a
    · rw [if_pos h]; simp [h]
    · rw [if_neg h, List.map_cons, List.mem_cons, ih]
      simp only [List.map_cons, List.mem_cons]
      constructor
      · rintro (h1 | h1 | h1)
        · exact .inr (.inl h1)
        · exact .inl h1
        · exact .inr (.inr h1)
      · rintro (h1 | h1 | h1)
        · exact .inr (.inl h1)
        · exact .inl h1
        · exact .inr (.inr h1)
theorem mset_nodup {m : List (α × β)} (hn : MNodup m) (a : α) (v : β) : MNodup (mset m a v) := by
  induction m with
  | nil => simp [mset, MNodup]
  | cons p m ih =>
    have hn2 : p.1 ∉ m.map (·.1) ∧ (m.map (·.1)).Nodup := List.nodup_cons.1 hn
    unfold mset
    by_cases h : p.1 = a
    · rw [if_pos h]
      exact List.nodup_cons.2 ⟨by rw [← h]; exact hn2.1, hn2.2⟩
    · rw [if_neg h]
      exact List.nodup_cons.2 ⟨fun hm => by
        rcases (mset_keys m a v p.1).1 hm with h1 | h1
        · exact h h1
        · exact hn2.1 h1, ih hn2.2⟩
theorem mdel_nodup {m : List (α × β)} (hn : MNodup m) (a : α) : MNodup (mdel m a) := hn.sublist ((List.filter_sublist).map _)
theorem mget_set (m : List (α × β)) (a : α) (v : β) (b : α) : mget (mset m a v) b = if b = a then some v else mget m b := by
  induction m with
  | nil =>
    rw [mset, mget_cons, mget_nil]
    by_cases h : b = a
    · subst h; simp
    · rw [if_neg h, if_neg (fun e => h e.symm)]
  | cons p m ih =>
    unfold mset
    by_cases h : p.1 = a
    · rw [if_pos h, mget_cons, mget_cons]
      by_cases hb : b = a
      · subst hb; simp
      · rw [if_neg (fun e => hb e.symm), if_neg hb, if_neg (fun e => hb (e.symm.trans h))]
    · rw [if_neg h, mget_cons, mget_cons, ih]
      by_cases hp : p.1 = b
      · rw [if_pos hp, if_pos hp, if_neg (fun e => h (hp.trans e))]
      · rw [if_neg hp, if_neg hp]
theorem mget_del (m : List (α × β)) (a b : α) : mget (mdel m a) b = if b = a then none else mget m b := by
  induction m with
  | nil => simp [mdel, mget_nil]
  | cons p m ih =>
    have e : mdel (p :: m) a = if p.1 = a then mdel m a else p :: mdel m a := by
      unfold mdel
      rw [List.filter_cons]
      by_cases h : p.1 = a <;> simp [h]
    rw [e]
    by_cases h : p.1 = a
    · rw [if_pos h, ih, mget_cons]
      by_cases hb : b = a
      · rw [if_pos hb, if_pos hb]
      · rw [if_neg hb, if_neg hb, if_neg (fun e => hb (e.symm.trans h))]
    · rw [if_neg h, mget_cons, mget_cons, ih]
      by_cases hp : p.1 = b
      · rw [if_pos hp, if_pos hp, if_neg (fun e => h (hp.trans e))]
      · rw [if_neg hp, if_neg hp]
theorem mdel_at {m : List (α × β)} (hn : MNodup m) {j : Nat} {p : α × β} (hj : m[j]? = some p) : mdel m p.1 = m.eraseIdx j := by
  induction m generalizing j with
  | nil => simp at hj
  | cons q m ih =>
    have hn2 : q.1 ∉ m.map (·.1) ∧ (m.map (·.1)).Nodup := List.nodup_cons.1 hn
    unfold mdel
    rw [List.filter_cons]
    cases j with
    | zero =>
      simp at hj
      subst hj
      simp only [ne_eq, not_true_eq_false, decide_false, Bool.false_eq_true, if_false, List.eraseIdx_cons_zero]
      exact List.filter_eq_self.2 fun x hx => by
        simp only [ne_eq, decide_eq_true_eq]
        exact fun e => hn2.1 (e ▸ List.mem_map_of_mem hx)
    | succ j =>
      simp at hj
      have hmem : p.1 ∈ m.map (·.1) := List.mem_map_of_mem (List.mem_of_getElem? hj)
      have : q.1 ≠ p.1 := fun e => hn2.1 (e ▸ hmem)
      simp only [ne_eq, this, not_false_eq_true, decide_true, if_true, List.eraseIdx_cons_succ]
      congr 1
      exact ih hn2.2 hj
theorem mdel_none {m : List (α × β)} {a : α} (h : ∀ p ∈ m, p.1 ≠ a) : mdel m a = m := List.filter_eq_self.2 fun x hx => by simpa using h x hx
end

/-- Keys of type k as values. -/
class MapKey (P : Program) (k : TypeId) {α : Type} (kv : α → Value) : Prop where
  keyed : Keyed P k
  lit : ∀ a, ∃ l, keyOf P k (kv a) = some l
  inj : ∀ a b, kv a = kv b → a = b
class MapTy (P : Program) (t : TypeId) (k e : outParam TypeId) (z : outParam Value) : Prop where
  und : P.underlying t = some (.map k e)
  zero : ∀ w, (zeroValue e).run P w = .ok z w

/-- A map: what lies in it. -/
def eMap {α β : Type} (b : Nat) (kv : α → Value) (vv : β → Value) (m : List (α × β)) : Ent where
  own i := i = b
  rd _ := False
  holds w := ∃ (es : Array MapEntry) (clock : Nat), w.heap[b]? = some (.map es clock) ∧ es.toList.map (fun e => (e.key, e.val)) = m.map (fun p => (kv p.1, vv p.2)) ∧ (m.map (·.1)).Nodup ∧ (∀ e ∈ es.toList, e.born < clock) ∧ (es.toList.map (·.born)).Nodup
  isC := false
  lt h i hi := by
    obtain ⟨es, clock, h1, _⟩ := h
    rcases hi with rfl | hi
    · exact (Array.getElem?_eq_some_iff.1 h1).1
    · exact hi.elim
  keep h hs hd := by
    obtain ⟨es, clock, h1, h2⟩ := h
    exact ⟨es, clock, (hs.block _ (Array.getElem?_eq_some_iff.1 h1).1 (hd _ (.inl rfl))).trans h1, h2⟩
  cel hc := by cases hc
class SlotM {α β : Type} (L : List Ent) (b : Nat) (kv : outParam (α → Value)) (vv : outParam (β → Value)) (m : outParam (List (α × β))) (F : outParam (List Ent)) : Prop where
  perm : L.Perm (eMap b kv vv m :: F)
instance (priority := high) SlotM.hit {α β : Type} (b : Nat) (kv : α → Value) (vv : β → Value) (m : List (α × β)) (L : List Ent) : SlotM (eMap b kv vv m :: L) b kv vv m L := ⟨.refl _⟩
instance SlotM.miss {α β : Type} (x : Ent) (b : Nat) (kv : α → Value) (vv : β → Value) (m : List (α × β)) (L F : List Ent) [h : SlotM L b kv vv m F] : SlotM (x :: L) b kv vv m (x :: F) := ⟨(h.perm.cons x).trans (.swap _ _ _)⟩

section
variable {α β : Type} [DecidableEq α] {P : Program} {kv : α → Value} {vv : β → Value} {m : List (α × β)} {es : Array MapEntry}
theorem map_at (he : es.toList.map (fun e => (e.key, e.val)) = m.map (fun p => (kv p.1, vv p.2))) {j : Nat} {e : MapEntry} (hj : es.toList[j]? = some e) : ∃ p, m[j]? = some p ∧ e.key = kv p.1 ∧ e.val = vv p.2 := by
  have h1 := congrArg (·[j]?) he
  simp only [List.getElem?_map, hj, Option.map_some] at h1
  cases hm : m[j]? with
  | none => rw [hm] at h1; cases h1
  | some p =>
    rw [hm] at h1
    simp only [Option.map_some, Option.some.injEq, Prod.mk.injEq] at h1
    exact ⟨p, rfl, h1.1, h1.2⟩
theorem map_mem (he : es.toList.map (fun e => (e.key, e.val)) = m.map (fun p => (kv p.1, vv p.2))) {p : α × β} (hp : p ∈ m) : ∃ e ∈ es.toList, e.key = kv p.1 := by
  have : (kv p.1, vv p.2) ∈ es.toList.map (fun e => (e.key, e.val)) := by rw [he]; exact List.mem_map_of_mem hp
  obtain ⟨e, h1, h2⟩ := List.mem_map.1 this
  exact ⟨e, h1, (Prod.mk.inj h2).1⟩
/-- A key sought among what lies in a map. -/
theorem map_find {k : TypeId} [K : MapKey P k kv] (he : es.toList.map (fun e => (e.key, e.val)) = m.map (fun p => (kv p.1, vv p.2))) (hn : MNodup m) (a : α) (w : World) :
    ((Instr.findKey k (kv a) es.toList).run P w = .ok none w ∧ mget m a = none ∧ ∀ p ∈ m, p.1 ≠ a) ∨ ∃ j e v, (Instr.findKey k (kv a) es.toList).run P w = .ok (some (j, e.val)) w ∧ es.toList[j]? = some e ∧ e.key = kv a ∧ m[j]? = some (a, v) ∧ e.val = vv v ∧ mget m a = some v := by
  obtain ⟨l, hl⟩ := K.lit a
  rcases K.keyed.find w hl es.toList (fun e hm => by
    obtain ⟨j, hj⟩ := List.getElem?_of_mem hm
    obtain ⟨p, _, h2, _⟩ := map_at he hj
    obtain ⟨l2, hl2⟩ := K.lit p.1
    exact ⟨l2, by rw [h2]; exact hl2⟩) with ⟨h1, h2⟩ | ⟨j, e, h1, h2, h3⟩
  · have h4 : ∀ p ∈ m, p.1 ≠ a := fun p hp e => by
      obtain ⟨x, hx, hk⟩ := map_mem he hp
      exact h2 x hx (by rw [hk, e])
    exact .inl ⟨h1, mget_none.2 h4, h4⟩
  · obtain ⟨p, h4, h5, h6⟩ := map_at he h2
    have h7 : p.1 = a := K.inj _ _ (h5.symm.trans h3)
    obtain ⟨p1, p2⟩ := p
    simp only at h7
    subst h7
    exact .inr ⟨j, e, p2, h1, h2, h3, h4, h6, mget_at hn h4⟩
end
end Go.Proofs.Ytcmgjoamfjijhaa
