/- Memory as a list of parts that lie apart; each operation's law over it. Program independent. -/
import Derived.Test.YtcmgjoamfjijhaaAny
namespace Go.Proofs.Ytcmgjoamfjijhaa
open Go.RowKit
set_option linter.unusedVariables false

/-- A row that one may append to: nil, or the cells of a block from a place on. -/
def Tl (w : World) (e : TypeId) (sz : Nat) (A : Option Addr) (n c : Nat) (xs : List Value) : Prop :=
  xs.length = n * sz ∧ ((A = none ∧ n = 0 ∧ c = 0) ∨ ∃ g off cur, A = some ⟨g, off, none⟩ ∧ Blk w g e cur ∧ n ≤ c ∧ c ≤ maxLen ∧ off + c * sz ≤ cur.size ∧ (cur.toList.drop off).take (n * sz) = xs)
section
variable {w w' : World} {e : TypeId} {A : Option Addr} {n c sz : Nat} {xs : List Value}
theorem Own.tl (h : Own w e sz A n c xs) : Tl w e sz A n c xs := by
  refine ⟨h.1, ?_⟩
  rcases h.form with ⟨rfl, rfl, rfl, rfl⟩ | ⟨g, cur, rfl, hg, h1, h2, h3, h4⟩
  · exact .inl ⟨rfl, rfl, rfl⟩
  · exact .inr ⟨g, 0, cur, rfl, hg, h1, h2, by omega, by simpa using h4⟩
theorem Tl.nil (w : World) (e : TypeId) (sz : Nat) : Tl w e sz none 0 0 [] := ⟨by simp, .inl ⟨rfl, rfl, rfl⟩⟩
theorem Tl.lt (h : Tl w e sz A n c xs) {k : Nat} (hk : At A k) : k < w.heap.size := by
  obtain ⟨a, rfl, rfl⟩ := hk
  rcases h.2 with ⟨h', _⟩ | ⟨g, off, cur, h', hg, _⟩
  · cases h'
  · injection h' with h'; subst h'; exact hg.lt
theorem Tl.isCells (h : Tl w e sz A n c xs) {k : Nat} (hk : At A k) {o : Obj} (ho : w.heap[k]? = some o) : o.isCells = true := by
  obtain ⟨a, rfl, rfl⟩ := hk
  rcases h.2 with ⟨h', _⟩ | ⟨g, off, cur, h', hg, _⟩
  · cases h'
  · injection h' with h'
    subst h'
    rw [show w.heap[g]? = _ from hg] at ho
    cases ho
    rfl
theorem Tl.step {S : Nat → Prop} (h : Tl w e sz A n c xs) (hs : Step S w w') (hd : ∀ k, At A k → ¬ S k) : Tl w' e sz A n c xs := by
  refine ⟨h.1, ?_⟩
  rcases h.2 with ⟨rfl, rfl, rfl⟩ | ⟨g, off, cur, rfl, hg, h1⟩
  · exact .inl ⟨rfl, rfl, rfl⟩
  · exact .inr ⟨g, off, cur, rfl, hg.step hs (hd g ⟨_, rfl, rfl⟩), h1⟩
theorem Tl.sl (h : Tl w e sz A n c xs) : Sl w A n c sz xs := by
  rcases h.2 with ⟨rfl, rfl, rfl⟩ | ⟨g, off, cur, rfl, hg, h1, h2, h3, h4⟩
  · have : xs = [] := List.eq_nil_of_length_eq_zero (by rw [h.1, Nat.zero_mul])
    subst this
    exact Sl.nil w sz
  · refine ⟨h.1, h1, h2, fun _ => ⟨g, off, rfl, hg.lt, fun i u hu => ?_⟩⟩
    rw [hg.cell]
    rw [← h4, List.getElem?_take] at hu
    split at hu
    · rw [List.getElem?_drop] at hu; simpa using hu
    · cases hu
/-- s[i:]. -/
theorem Tl.drop (h : Tl w e sz A n c xs) {i : Nat} (hin : i ≤ n) : Tl w e sz (if c = i then A else A.map (·.add (i * sz))) (n - i) (c - i) (xs.drop (i * sz)) := by
  have hm : i * sz ≤ n * sz := Nat.mul_le_mul_right _ hin
  refine ⟨by rw [List.length_drop, h.1, Nat.sub_mul], ?_⟩
  rcases h.2 with ⟨rfl, rfl, rfl⟩ | ⟨g, off, cur, rfl, hg, h1, h2, h3, h4⟩
  · exact .inl ⟨by split <;> rfl, by omega, by omega⟩
  · have hmc : i * sz ≤ c * sz := Nat.mul_le_mul_right _ (Nat.le_trans hin h1)
    have hsub := Nat.sub_mul c i sz
    by_cases hc : c = i
    · subst hc
      have : n = c := by omega
      subst this
      rw [if_pos rfl, Nat.sub_self]
      refine .inr ⟨g, off, cur, rfl, hg, Nat.le_refl _, by omega, by omega, ?_⟩
      rw [Nat.zero_mul, List.take_zero, List.drop_eq_nil_of_le (by rw [h.1]; exact Nat.le_refl _)]
    · rw [if_neg hc]
      refine .inr ⟨g, off + i * sz, cur, by simp [add_none], hg, by omega, by omega, by omega, ?_⟩
      rw [← h4, List.drop_take, List.drop_drop, Nat.sub_mul]
/-- s[:j]. -/
theorem Tl.take (h : Tl w e sz A n c xs) {j : Nat} (hjn : j ≤ n) : Tl w e sz A j c (xs.take (j * sz)) := by
  have hm : j * sz ≤ n * sz := Nat.mul_le_mul_right _ hjn
  refine ⟨by rw [List.length_take, h.1]; omega, ?_⟩
  rcases h.2 with ⟨rfl, rfl, rfl⟩ | ⟨g, off, cur, rfl, hg, h1, h2, h3, h4⟩
  · exact .inl ⟨rfl, by omega, rfl⟩
  · refine .inr ⟨g, off, cur, rfl, hg, by omega, h2, h3, ?_⟩
    rw [← h4, List.take_take, Nat.min_eq_left hm]
end

section
variable {P : Program} {w : World}
/-- append onto such a row, of whatever can be read. -/
theorem run_append_tl (t u ty e : TypeId) (i : TypeInfo) (z : Value) (sz bytes : Nat) (ht : P.underlying t = some (.slice e)) (hu : P.underlying u = some (.slice e) ∨ P.underlying u = some .string) (hi : P.info? e = some i) (hz : i.zero = some z)
    (hsize : i.size = sz) (hby : i.bytes = bytes) (hzs : z.cells.size = sz) (hsz : 0 < sz) (A : Option Addr) (n c : Nat) (xs : List Value) (hown : Tl w e sz A n c xs)
    (x : Value) (m : Nat) (ys : List Value) (hyl : ys.length = m * sz) (hlen : ∀ w', (Builtin.lenOf x).run P w' = .ok m w') (hfc : (Builtin.firstCells sz m x).run P w = .ok ys.toArray w) (hfc2 : (Builtin.firstCells sz m x).run P w.drew = .ok ys.toArray w.drew)
    (h1 : ∀ u ∈ ys, u.oneCell' = true) (h63 : n + m ≤ maxLen) (hbytes : (n + m) * bytes ≤ 140737488355328) :
    ∃ A' c' w', (Builtin.append_ #[t, u] ty #[.slice A n c, x]).run P w = .ok (.slice A' (n + m) c') w' ∧ Tl w' e sz A' (n + m) c' (xs ++ ys) ∧ Step (At A) w w' ∧ (∀ k, At A' k → At A k ∨ w.heap.size ≤ k) := by
  subst hsize
  subst hby
  have hsmall : n + m ≤ 9223372036854775807 := by simp only [maxLen] at h63; omega
  have hxl := hown.1
  have hal : (xs ++ ys).length = (n + m) * i.size := by rw [List.length_append, hxl, hyl, Nat.add_mul]
  rcases hown.2 with ⟨rfl, rfl, rfl⟩ | ⟨g, off, cur, rfl, hg, hnc, hcm, hle, htk⟩
  · have hxs : xs = [] := List.eq_nil_of_length_eq_zero (by rw [hxl, Nat.zero_mul])
    subst hxs
    rw [Nat.zero_add] at h63 hbytes hsmall hal
    rw [Nat.zero_add, List.nil_append]
    rw [List.nil_append] at hal
    by_cases hm : m = 0
    · subst hm
      have hys : ys = [] := List.eq_nil_of_length_eq_zero (by rw [hyl, Nat.zero_mul])
      subst hys
      refine ⟨none, 0, w, ?_, Tl.nil w e _, Step.refl _ _, fun k hk => .inl hk⟩
      rcases hu with hu | hu <;> simp [Builtin.append_, run_underlying ht, run_underlying hu, sizeOf, typeInfo, hi, hlen, hfc]
    · have hn : ¬ (m ≤ 0) := by omega
      have h63' : ¬ (9223372036854775807 < (m : Int)) := by omega
      have h48' : ¬ (281474976710656 < Builtin.nextslicecap m 0 * i.bytes) := by
        have := growslice_fits (need := m) (old := 0) (bytes := i.bytes) (by omega) hbytes
        omega
      have hge := grownCap_ge w m 0 e
      have hcm := grownCap_le_maxLen w m 0 e h63
      refine ⟨some ⟨w.heap.size, 0, none⟩, grownCap w m 0 e, w.drew.alloc (.cells (ys.toArray ++ Builtin.zeroCells z.cells (grownCap w m 0 e - m)) e), ?_, ⟨hal, .inr ⟨w.heap.size, 0, _, rfl, heap_alloc_new w.drew _, hge, hcm, ?_, ?_⟩⟩, ((Step.refl _ _).drew).alloc _, fun k hk => .inr ?_⟩
      · rcases hu with hu | hu <;> simp [Builtin.append_, run_underlying ht, run_underlying hu, sizeOf, typeInfo, zeroValue, hi, hz, hlen, hm, h63', h48', Question.forced, hfc2, run_firstCells_none, newRow, grownCap]
      · simp only [Array.size_append, List.size_toArray, size_zeroCells, hzs, hyl, ← Nat.add_mul, Nat.zero_add]
        rw [Nat.add_sub_cancel' hge]
        exact Nat.le_refl _
      · rw [List.drop_zero, Array.toList_append, ← hal, List.take_left]
      · obtain ⟨a, ha, rfl⟩ := hk
        cases ha
        exact Nat.le_refl _
  · by_cases hroom : n + m ≤ c
    · have hmul : (n + m) * i.size ≤ c * i.size := Nat.mul_le_mul_right _ hroom
      rw [Nat.add_mul] at hmul
      have hst := run_storeCells_at P g (off + n * i.size) e ys 0 cur w hg (by omega) h1
      rw [Nat.add_zero] at hst
      obtain ⟨hb', hs'⟩ := Blk.setRow (w := w) hg (cur.toList.take (off + n * i.size) ++ ys ++ cur.toList.drop (off + n * i.size + ys.length)).toArray
      refine ⟨some ⟨g, off, none⟩, c, _, ?_, ⟨hal, .inr ⟨g, off, _, rfl, hb', hroom, hcm, ?_, ?_⟩⟩, hs'.mono (fun k _ hk => ⟨_, rfl, hk.symm⟩), fun k hk => .inl hk⟩
      · rcases hu with hu | hu <;> simp [Builtin.append_, run_underlying ht, run_underlying hu, sizeOf, typeInfo, hi, hlen, hfc, hroom, Addr.add_lit, hst]
      · have : cur.toList.length = cur.size := by simp
        simp only [List.size_toArray, List.length_append, List.length_take, List.length_drop]
        omega
      · have h5 : (cur.toList.take (off + n * i.size)).length = off + n * i.size := by
          rw [List.length_take]
          have : cur.toList.length = cur.size := by simp
          omega
        rw [List.append_assoc, List.drop_append_of_le_length (by omega), List.drop_take, Nat.add_sub_cancel_left, htk, ← List.append_assoc, ← hal, List.take_left]
    · have hn : ¬ (n + m ≤ c) := hroom
      have h63' : ¬ (9223372036854775807 < ((n : Int) + (m : Int))) := by omega
      have h48' : ¬ (281474976710656 < Builtin.nextslicecap (n + m) c * i.bytes) := by
        have := growslice_fits (need := n + m) (old := c) (bytes := i.bytes) (by omega) hbytes
        omega
      have hfo := run_firstCells_some (P := P) w.drew i.size n ⟨g, off, none⟩ n c xs hxl (by simpa using hown.sl.adds rfl)
      have hge := grownCap_ge w (n + m) c e
      have hcm := grownCap_le_maxLen w (n + m) c e h63
      refine ⟨some ⟨w.heap.size, 0, none⟩, grownCap w (n + m) c e, w.drew.alloc (.cells ((xs ++ ys).toArray ++ Builtin.zeroCells z.cells (grownCap w (n + m) c e - (n + m))) e), ?_, ⟨hal, .inr ⟨w.heap.size, 0, _, rfl, heap_alloc_new w.drew _, hge, hcm, ?_, ?_⟩⟩, ((Step.refl _ _).drew).alloc _, fun k hk => .inr ?_⟩
      · rcases hu with hu | hu <;> simp [Builtin.append_, run_underlying ht, run_underlying hu, sizeOf, typeInfo, zeroValue, hi, hz, hlen, hn, h63', h48', Question.forced, hfc2, hfo, newRow, grownCap] <;> (congr 2; apply Array.ext'; simp [List.append_assoc])
      · simp only [Array.size_append, List.size_toArray, size_zeroCells, hzs, hal, ← Nat.add_mul, Nat.zero_add]
        rw [Nat.add_sub_cancel' hge]
        exact Nat.le_refl _
      · rw [List.drop_zero, Array.toList_append, ← hal, List.take_left]
      · obtain ⟨a, ha, rfl⟩ := hk
        cases ha
        exact Nat.le_refl _
end

section
variable {P : Program} {w : World}
theorem src_len (B : Option Addr) (m d : Nat) (w' : World) : (Builtin.lenOf (.slice B m d)).run P w' = .ok m w' := by simp [Builtin.lenOf]
theorem src_cells {B : Option Addr} {m d sz : Nat} {ys : List Value} (hr : Sl w B m d sz ys) : (Builtin.firstCells sz m (.slice B m d)).run P w = .ok ys.toArray w := by
  cases B with
  | none =>
    have : ys = [] := by
      by_cases h : ys = []
      · exact h
      · obtain ⟨b, off, e, _⟩ := hr.rd h
        cases e
    subst this
    exact run_firstCells_none _ _ _ _ _
  | some b => exact run_firstCells_some w sz m b m d ys hr.len (hr.adds rfl)
theorem src_str_len (l : List UInt8) (w' : World) : (Builtin.lenOf (.string (str l))).run P w' = .ok l.length w' := by simp [Builtin.lenOf, str_size]
theorem src_str_cells (l : List UInt8) (w : World) : (Builtin.firstCells 1 l.length (.string (str l))).run P w = .ok (u8s l).toArray w := by
  have h := Lib.run_firstCells_string (P := P) w 1 (str l)
  rwa [str_size, strCells_str] at h
end

/-- A part of memory: the blocks that it owns, those that it reads, what holds there. -/
structure Ent where
  own : Nat → Prop
  rd : Nat → Prop
  holds : World → Prop
  isC : Bool
  lt : ∀ {w : World}, holds w → ∀ k, own k ∨ rd k → k < w.heap.size
  keep : ∀ {S : Nat → Prop} {w w' : World}, holds w → Step S w w' → (∀ k, own k ∨ rd k → ¬ S k) → holds w'
  cel : isC = true → ∀ {w : World}, holds w → ∀ k, own k ∨ rd k → ∀ o : Obj, w.heap[k]? = some o → o.isCells = true

/-- A block whole. -/
def eBlk (g : Nat) (t : TypeId) (xs : List Value) : Ent where
  own k := k = g
  rd _ := False
  holds w := Blk w g t xs.toArray
  isC := true
  lt h k hk := by rcases hk with rfl | hk; exact h.lt; exact hk.elim
  keep h hs hd := h.step hs (hd g (.inl rfl))
  cel _ _ h k hk o ho := by rcases hk with rfl | hk; exact h.isCells ho; exact hk.elim
/-- A row of one's own. -/
def eOwn (e : TypeId) (sz : Nat) (A : Option Addr) (n c : Nat) (xs : List Value) : Ent where
  own k := At A k
  rd _ := False
  holds w := Tl w e sz A n c xs
  isC := true
  lt h k hk := by rcases hk with hk | hk; exact h.lt hk; exact hk.elim
  keep h hs hd := h.step hs (fun k hk => hd k (.inl hk))
  cel _ _ h k hk o ho := by rcases hk with hk | hk; exact h.isCells hk ho; exact hk.elim
/-- A slice that is read. -/
def eSl (A : Option Addr) (n c sz : Nat) (xs : List Value) : Ent where
  own _ := False
  rd k := Ft A n k
  holds w := 0 < sz ∧ Sl w A n c sz xs
  isC := true
  lt h k hk := by rcases hk with hk | hk; exact hk.elim; exact h.2.ft_lt h.1 hk
  keep h hs hd := ⟨h.1, h.2.step hs (fun k hk => hd k (.inr hk))⟩
  cel _ w h k hk o ho := by
    rcases hk with hk | hk
    · exact hk.elim
    · obtain ⟨hn, a, rfl, rfl⟩ := hk
      have hx : xs ≠ [] := by
        intro e
        have h1 := h.2.len
        rw [e] at h1
        have h2 := Nat.mul_pos hn h.1
        simp at h1
        omega
      obtain ⟨b, off, e, _, hc⟩ := h.2.rd hx
      injection e with e
      subst e
      cases xs with
      | nil => exact absurd rfl hx
      | cons u xs => exact isCells_of_cell (hc 0 u rfl) ho

/-- From w0 to w nothing has turned but blocks of S and what is new; in w lie the parts of L, apart from each other; what they own is S's or new. -/
structure St (S : Nat → Prop) (w0 w : World) (L : List Ent) : Prop where
  step : Step S w0 w
  holds : ∀ x ∈ L, x.holds w
  foot : ∀ x ∈ L, ∀ k, x.own k → S k ∨ w0.heap.size ≤ k
  apart : L.Pairwise fun x y => ∀ k, (x.own k → ¬ (y.own k ∨ y.rd k)) ∧ (x.rd k → ¬ y.own k)

/-- L has e, and else F. -/
class Slot (L : List Ent) (e : Ent) (F : outParam (List Ent)) : Prop where
  perm : L.Perm (e :: F)
instance (priority := high) Slot.hit (e : Ent) (L : List Ent) : Slot (e :: L) e L := ⟨.refl _⟩
instance Slot.miss (x e : Ent) (L F : List Ent) [h : Slot L e F] : Slot (x :: L) e (x :: F) := ⟨(h.perm.cons x).trans (.swap _ _ _)⟩
class SlotB (L : List Ent) (g : Nat) (t : outParam TypeId) (xs : outParam (List Value)) (F : outParam (List Ent)) : Prop where
  perm : L.Perm (eBlk g t xs :: F)
instance (priority := high) SlotB.hit (g : Nat) (t : TypeId) (xs : List Value) (L : List Ent) : SlotB (eBlk g t xs :: L) g t xs L := ⟨.refl _⟩
instance SlotB.miss (x : Ent) (g : Nat) (t : TypeId) (xs : List Value) (L F : List Ent) [h : SlotB L g t xs F] : SlotB (x :: L) g t xs (x :: F) := ⟨(h.perm.cons x).trans (.swap _ _ _)⟩
class SlotO (L : List Ent) (A : Option Addr) (e : outParam TypeId) (sz n c : outParam Nat) (xs : outParam (List Value)) (F : outParam (List Ent)) : Prop where
  perm : L.Perm (eOwn e sz A n c xs :: F)
instance (priority := high) SlotO.hit (A : Option Addr) (e : TypeId) (sz n c : Nat) (xs : List Value) (L : List Ent) : SlotO (eOwn e sz A n c xs :: L) A e sz n c xs L := ⟨.refl _⟩
instance SlotO.miss (x : Ent) (A : Option Addr) (e : TypeId) (sz n c : Nat) (xs : List Value) (L F : List Ent) [h : SlotO L A e sz n c xs F] : SlotO (x :: L) A e sz n c xs (x :: F) := ⟨(h.perm.cons x).trans (.swap _ _ _)⟩
/-- L has all of L', and maybe more. -/
class Sub (L L' : List Ent) : Prop where
  sub : ∃ R, L.Perm (L' ++ R)
instance Sub.nil (L : List Ent) : Sub L [] := ⟨L, .refl _⟩
instance (priority := low) Sub.refl (L : List Ent) : Sub L L := ⟨[], by simp⟩
instance (priority := low) Sub.drop (x : Ent) (L L' : List Ent) [k : Sub L L'] : Sub (x :: L) L' := ⟨by
  obtain ⟨R, hR⟩ := k.sub
  exact ⟨x :: R, (hR.cons x).trans List.perm_middle.symm⟩⟩
instance Sub.cons (L F L' : List Ent) (e : Ent) [h : Slot L e F] [k : Sub F L'] : Sub L (e :: L') := ⟨by
  obtain ⟨R, hR⟩ := k.sub
  exact ⟨R, h.perm.trans (hR.cons e)⟩⟩

section
variable {S : Nat → Prop} {w0 w w' : World} {L F L' : List Ent}
theorem St.nil (w : World) : St (fun _ => False) w w [] := ⟨Step.refl _ _, by simp, by simp, .nil⟩
theorem St.perm (h : St S w0 w L) (hp : L.Perm L') : St S w0 w L' :=
  ⟨h.step, fun x hx => h.holds x (hp.mem_iff.2 hx), fun x hx => h.foot x (hp.mem_iff.2 hx), (List.Perm.pairwise_iff (fun {x y} hxy k => ⟨fun hy hx => by
    rcases hx with hx | hx
    · exact (hxy k).1 hx (.inl hy)
    · exact (hxy k).2 hx hy, fun hy hx => (hxy k).1 hx (.inr hy)⟩) hp).1 h.apart⟩
theorem St.to (h : St S w0 w L) [k : Sub L L'] : St S w0 w L' := by
  obtain ⟨R, hR⟩ := k.sub
  have h2 := h.perm hR
  exact ⟨h2.step, fun x hx => h2.holds x (List.mem_append_left _ hx), fun x hx => h2.foot x (List.mem_append_left _ hx), (List.pairwise_append.1 h2.apart).1⟩
theorem St.get {e : Ent} (h : St S w0 w L) [k : Slot L e F] : e.holds w := h.holds e (k.perm.mem_iff.2 List.mem_cons_self)
theorem St.blk (h : St S w0 w L) (g : Nat) {t : TypeId} {xs : List Value} [k : SlotB L g t xs F] : Blk w g t xs.toArray := (h.perm k.perm).holds _ List.mem_cons_self
theorem St.row (h : St S w0 w L) (A : Option Addr) {e : TypeId} {sz n c : Nat} {xs : List Value} [k : SlotO L A e sz n c xs F] : Tl w e sz A n c xs := (h.perm k.perm).holds _ List.mem_cons_self
/-- Behind a step that leaves all parts alone. -/
theorem St.quiet (h : St S w0 w L) (hs : Step (fun _ => False) w w') : St S w0 w' L :=
  ⟨h.step.trans hs (fun _ _ h => h.elim), fun x hx => x.keep (h.holds x hx) hs (fun _ _ h => h), h.foot, h.apart⟩
theorem St.drew (h : St S w0 w L) : St S w0 w.drew L := h.quiet (Step.refl _ _).drew
/-- A new part. -/
theorem St.add (h : St S w0 w L) (hs : Step (fun _ => False) w w') (x : Ent) (hx : x.holds w') (hn : ∀ k, x.own k → w.heap.size ≤ k) (hr : ∀ k, ¬ x.rd k) : St S w0 w' (x :: L) := by
  have h2 := h.quiet hs
  refine ⟨h2.step, fun y hy => ?_, fun y hy k hk => ?_, List.pairwise_cons.2 ⟨fun y hy k => ⟨fun hk hyk => ?_, fun hk => (hr k hk).elim⟩, h2.apart⟩⟩
  · rcases List.mem_cons.1 hy with rfl | hy
    · exact hx
    · exact h2.holds y hy
  · rcases List.mem_cons.1 hy with rfl | hy
    · have := hn k hk; have := h.step.size; exact .inr (by omega)
    · exact h2.foot y hy k hk
  · have h3 := y.lt (h.holds y hy) k hyk
    have := hn k hk
    omega
/-- A part that is read, of old blocks that none of the parts owns. -/
theorem St.addRd (h : St S w0 w L) (x : Ent) (hx : x.holds w) (ho : ∀ k, ¬ x.own k) (hr : ∀ k, x.rd k → k < w0.heap.size ∧ ¬ S k) : St S w0 w (x :: L) := by
  refine ⟨h.step, fun y hy => ?_, fun y hy k hk => ?_, List.pairwise_cons.2 ⟨fun y hy k => ⟨fun hk => (ho k hk).elim, fun hk hyk => ?_⟩, h.apart⟩⟩
  · rcases List.mem_cons.1 hy with rfl | hy
    · exact hx
    · exact h.holds y hy
  · rcases List.mem_cons.1 hy with rfl | hy
    · exact (ho k hk).elim
    · exact h.foot y hy k hk
  · have := hr k hk
    rcases h.foot y hy k hyk with h3 | h3
    · exact this.2 h3
    · omega
/-- One part turned: by itself alone, or into new blocks. -/
theorem St.set {e : Ent} (h : St S w0 w L) [k : Slot L e F] (e' : Ent) (hs : Step e.own w w') (hx : e'.holds w') (hn : ∀ k, e'.own k → e.own k ∨ w.heap.size ≤ k) (hr : ∀ k, ¬ e'.rd k) : St S w0 w' (e' :: F) := by
  have h1 := h.perm k.perm
  have hp := List.pairwise_cons.1 h1.apart
  refine ⟨h1.step.trans hs (fun i hi hk => ?_), fun y hy => ?_, fun y hy k hk => ?_, List.pairwise_cons.2 ⟨fun y hy k => ⟨fun hk hyk => ?_, fun hk => (hr k hk).elim⟩, hp.2⟩⟩
  · rcases h1.foot e List.mem_cons_self i hk with h2 | h2
    · exact h2
    · omega
  · rcases List.mem_cons.1 hy with rfl | hy
    · exact hx
    · exact y.keep (h1.holds y (List.mem_cons_of_mem _ hy)) hs (fun k hk he => (hp.1 y hy k).1 he hk)
  · rcases List.mem_cons.1 hy with rfl | hy
    · rcases hn k hk with h2 | h2
      · exact h1.foot e List.mem_cons_self k h2
      · have := h.step.size; exact .inr (by omega)
    · exact h1.foot y (List.mem_cons_of_mem _ hy) k hk
  · rcases hn k hk with h2 | h2
    · exact (hp.1 y hy k).1 h2 hyk
    · have := y.lt (h1.holds y (List.mem_cons_of_mem _ hy)) k hyk
      omega
/-- One part said otherwise. -/
theorem St.recast {e : Ent} (h : St S w0 w L) [k : Slot L e F] (e' : Ent) (hx : e'.holds w) (hn : ∀ k, e'.own k → e.own k) (hr : ∀ k, ¬ e'.rd k) : St S w0 w (e' :: F) :=
  h.set (k := k) e' (Step.refl _ _) hx (fun k hk => .inl (hn k hk)) hr
theorem St.dropRow (h : St S w0 w L) (A : Option Addr) (i : Nat) {e : TypeId} {sz n c : Nat} {xs : List Value} [k : SlotO L A e sz n c xs F] (hin : i ≤ n) :
    St S w0 w (eOwn e sz (if c = i then A else A.map (·.add (i * sz))) (n - i) (c - i) (xs.drop (i * sz)) :: F) :=
  h.recast (k := ⟨k.perm⟩) (eOwn e sz (if c = i then A else A.map (·.add (i * sz))) (n - i) (c - i) (xs.drop (i * sz))) ((h.row A (k := k)).drop hin) (fun _ hk => at_cut hk) (fun _ hk => hk)
theorem St.takeRow (h : St S w0 w L) (A : Option Addr) (j : Nat) {e : TypeId} {sz n c : Nat} {xs : List Value} [k : SlotO L A e sz n c xs F] (hjn : j ≤ n) :
    St S w0 w (eOwn e sz A j c (xs.take (j * sz)) :: F) :=
  h.recast (k := ⟨k.perm⟩) (eOwn e sz A j c (xs.take (j * sz))) ((h.row A (k := k)).take hjn) (fun _ hk => hk) (fun _ hk => hk)
theorem Step.own_blk {g : Nat} {t : TypeId} {xs : List Value} (h : Step (fun k => k = g) w w') : Step (eBlk g t xs).own w w' := h
/-- Parts that read nothing of others. -/
class NoRd (L : List Ent) : Prop where
  no : ∀ x ∈ L, ∀ k, ¬ x.rd k
instance : NoRd [] := ⟨by simp⟩
instance NoRd.blk (g : Nat) (t : TypeId) (xs : List Value) (L : List Ent) [h : NoRd L] : NoRd (eBlk g t xs :: L) := ⟨fun x hx k hk => by
  rcases List.mem_cons.1 hx with rfl | hx
  · exact hk
  · exact h.no x hx k hk⟩
instance NoRd.row (e : TypeId) (sz : Nat) (A : Option Addr) (n c : Nat) (xs : List Value) (L : List Ent) [h : NoRd L] : NoRd (eOwn e sz A n c xs :: L) := ⟨fun x hx k hk => by
  rcases List.mem_cons.1 hx with rfl | hx
  · exact hk
  · exact h.no x hx k hk⟩
/-- What a callee has done that was given the parts E. -/
theorem St.frame {T : Nat → Prop} {E : List Ent} (h : St S w0 w (E ++ F)) (k : St T w w' L') (hT : ∀ i, T i → ∃ x ∈ E, x.own i) [nr : NoRd L'] : St S w0 w' (L' ++ F) := by
  have hp := List.pairwise_append.1 h.apart
  have hF : ∀ x ∈ F, x.holds w' := fun x hx => x.keep (h.holds x (List.mem_append_right _ hx)) k.step (fun i hi ht => by
    obtain ⟨y, hy, hyi⟩ := hT i ht
    exact ((hp.2.2 y hy x hx i).1 hyi) hi)
  have hT2 : ∀ i, T i → S i ∨ w0.heap.size ≤ i := fun i ht => by
    obtain ⟨y, hy, hyi⟩ := hT i ht
    exact h.foot y (List.mem_append_left _ hy) i hyi
  have hs := h.step.size
  refine ⟨h.step.trans k.step (fun i hi ht => (hT2 i ht).resolve_right (by omega)), fun y hy => ?_, fun y hy i hi => ?_, List.pairwise_append.2 ⟨k.apart, hp.2.1, fun x hx y hy i => ⟨fun hi hy2 => ?_, fun hi hy2 => nr.no x hx i hi⟩⟩⟩
  · rcases List.mem_append.1 hy with hy | hy
    · exact k.holds y hy
    · exact hF y hy
  · rcases List.mem_append.1 hy with hy | hy
    · rcases k.foot y hy i hi with h3 | h3
      · exact hT2 i h3
      · exact .inr (by omega)
    · exact h.foot y (List.mem_append_right _ hy) i hi
  · rcases k.foot x hx i hi with h4 | h4
    · obtain ⟨z, hz, hzi⟩ := hT i h4
      exact (hp.2.2 z hz y hy i).1 hzi hy2
    · have h3 := y.lt (h.holds y (List.mem_append_right _ hy)) i hy2
      omega
theorem St.frame0 (h : St S w0 w L) (k : St (fun _ => False) w w' L') [NoRd L'] : St S w0 w' (L' ++ L) :=
  St.frame (E := []) h k (fun _ h => h.elim)
theorem St.frame1 {e : Ent} (h : St S w0 w L) [s : Slot L e F] (k : St e.own w w' L') [NoRd L'] : St S w0 w' (L' ++ F) :=
  St.frame (E := [e]) (h.perm s.perm) k (fun i hi => ⟨e, List.mem_cons_self, hi⟩)
theorem St.frame2 {e1 e2 : Ent} {F1 F2 : List Ent} (h : St S w0 w L) [s : Slot L e1 F1] [s2 : Slot F1 e2 F2] (k : St (fun i => e1.own i ∨ e2.own i) w w' L') [NoRd L'] : St S w0 w' (L' ++ F2) :=
  St.frame (E := [e1, e2]) (h.perm (s.perm.trans (s2.perm.cons e1))) k (fun i hi => by
    rcases hi with hi | hi
    · exact ⟨e1, by simp, hi⟩
    · exact ⟨e2, by simp, hi⟩)
theorem St.frame01 {x : Ent} (h : St S w0 w L) (k : St (fun _ => False) w w' [x]) [NoRd [x]] : St S w0 w' (x :: L) := h.frame0 k
theorem St.frame02 {x y : Ent} (h : St S w0 w L) (k : St (fun _ => False) w w' [x, y]) [NoRd [x, y]] : St S w0 w' (x :: y :: L) := h.frame0 k
theorem St.frame11 {e x : Ent} (h : St S w0 w L) [s : Slot L e F] (k : St e.own w w' [x]) [NoRd [x]] : St S w0 w' (x :: F) := h.frame1 (s := s) k
theorem St.frame12 {e x y : Ent} (h : St S w0 w L) [s : Slot L e F] (k : St e.own w w' [x, y]) [NoRd [x, y]] : St S w0 w' (x :: y :: F) := h.frame1 (s := s) k
/-- Begun with one part, two parts. -/
theorem St.one {e : Ent} (h : e.holds w) : St e.own w w [e] :=
  ⟨Step.refl _ _, by simpa using h, by simp; exact fun k hk => .inl hk, by simp⟩
theorem St.two {e1 e2 : Ent} (h1 : e1.holds w) (h2 : e2.holds w) (ha : ∀ k, (e1.own k → ¬ (e2.own k ∨ e2.rd k)) ∧ (e1.rd k → ¬ e2.own k)) : St (fun i => e1.own i ∨ e2.own i) w w [e1, e2] :=
  ⟨Step.refl _ _, by simp [h1, h2], fun x hx k hk => by
    simp at hx
    rcases hx with rfl | rfl
    · exact .inl (.inl hk)
    · exact .inl (.inr hk), by simpa using ha⟩
theorem St.reading {A : Option Addr} {n c sz : Nat} {xs : List Value} (h : St S w0 w L) (hl : Sl w A n c sz xs) (hsz : 0 < sz) (hr : ∀ k, Ft A n k → k < w0.heap.size ∧ ¬ S k) : St S w0 w (eSl A n c sz xs :: L) :=
  h.addRd (eSl A n c sz xs) ⟨hsz, hl⟩ (fun _ h => h) hr
theorem St.read0 {A : Option Addr} {n c sz : Nat} {xs : List Value} (hl : Sl w A n c sz xs) (hsz : 0 < sz) : St (fun _ => False) w w [eSl A n c sz xs] :=
  (St.nil w).reading hl hsz (fun _ hk => ⟨hl.ft_lt hsz hk, id⟩)
/-- Begun anew at w. -/
theorem St.anew (h : St S w0 w L) : St (fun i => ∃ x ∈ L, x.own i) w w L :=
  ⟨Step.refl _ _, h.holds, fun x hx k hk => .inl ⟨x, hx, hk⟩, h.apart⟩
theorem St.after {T : Nat → Prop} (h : St S w0 w L) (k : St T w w' L') (hT : ∀ i, T i → ∃ x ∈ L, x.own i) : St S w0 w' L' := by
  have hs := h.step.size
  have hT2 : ∀ i, T i → S i ∨ w0.heap.size ≤ i := fun i ht => by
    obtain ⟨y, hy, hyi⟩ := hT i ht
    exact h.foot y hy i hyi
  refine ⟨h.step.trans k.step (fun i hi ht => (hT2 i ht).resolve_right (by omega)), k.holds, fun y hy i hi => ?_, k.apart⟩
  rcases k.foot y hy i hi with h3 | h3
  · exact hT2 i h3
  · exact .inr (by omega)
theorem St.below (h : St (fun _ => False) w0 w L) : Step (fun _ => False) w0 w := h.step
end

/-- Two parts as one. -/
def eStar (a b : Ent) : Ent where
  own k := a.own k ∨ b.own k
  rd k := a.rd k ∨ b.rd k
  holds w := a.holds w ∧ b.holds w ∧ ∀ k, (a.own k → ¬ (b.own k ∨ b.rd k)) ∧ (a.rd k → ¬ b.own k)
  isC := a.isC && b.isC
  lt h k hk := by
    rcases hk with (hk | hk) | (hk | hk)
    · exact a.lt h.1 k (.inl hk)
    · exact b.lt h.2.1 k (.inl hk)
    · exact a.lt h.1 k (.inr hk)
    · exact b.lt h.2.1 k (.inr hk)
  keep h hs hd := ⟨a.keep h.1 hs fun k hk => hd k (hk.imp .inl .inl), b.keep h.2.1 hs fun k hk => hd k (hk.imp .inr .inr), h.2.2⟩
  cel hc w h k hk o ho := by
    simp only [Bool.and_eq_true] at hc
    rcases hk with (hk | hk) | (hk | hk)
    · exact a.cel hc.1 h.1 k (.inl hk) o ho
    · exact b.cel hc.2 h.2.1 k (.inl hk) o ho
    · exact a.cel hc.1 h.1 k (.inr hk) o ho
    · exact b.cel hc.2 h.2.1 k (.inr hk) o ho
theorem St.unstar {S : Nat → Prop} {w0 w : World} {F : List Ent} {a b : Ent} (h : St S w0 w (eStar a b :: F)) : St S w0 w (a :: b :: F) := by
  have hp := List.pairwise_cons.1 h.apart
  have hh : (eStar a b).holds w := h.holds _ List.mem_cons_self
  refine ⟨h.step, fun x hx => ?_, fun x hx k hk => ?_, List.pairwise_cons.2 ⟨fun y hy k => ?_, List.pairwise_cons.2 ⟨fun y hy k => ?_, hp.2⟩⟩⟩
  · rcases List.mem_cons.1 hx with rfl | hx
    · exact hh.1
    · rcases List.mem_cons.1 hx with rfl | hx
      · exact hh.2.1
      · exact h.holds x (List.mem_cons_of_mem _ hx)
  · rcases List.mem_cons.1 hx with rfl | hx
    · exact h.foot _ List.mem_cons_self k (.inl hk)
    · rcases List.mem_cons.1 hx with rfl | hx
      · exact h.foot _ List.mem_cons_self k (.inr hk)
      · exact h.foot x (List.mem_cons_of_mem _ hx) k hk
  · rcases List.mem_cons.1 hy with rfl | hy
    · exact hh.2.2 k
    · exact ⟨fun hk => (hp.1 y hy k).1 (.inl hk), fun hk => (hp.1 y hy k).2 (.inl hk)⟩
  · exact ⟨fun hk => (hp.1 y hy k).1 (.inr hk), fun hk => (hp.1 y hy k).2 (.inr hk)⟩
theorem St.star {S : Nat → Prop} {w0 w : World} {F : List Ent} {a b : Ent} (h : St S w0 w (a :: b :: F)) : St S w0 w (eStar a b :: F) := by
  have h1 := List.pairwise_cons.1 h.apart
  have h2 := List.pairwise_cons.1 h1.2
  refine ⟨h.step, fun x hx => ?_, fun x hx k hk => ?_, List.pairwise_cons.2 ⟨fun y hy k => ⟨fun hk => ?_, fun hk => ?_⟩, h2.2⟩⟩
  · rcases List.mem_cons.1 hx with rfl | hx
    · exact ⟨h.holds a (by simp), h.holds b (by simp), fun k => h1.1 b List.mem_cons_self k⟩
    · exact h.holds x (by simp [hx])
  · rcases List.mem_cons.1 hx with rfl | hx
    · rcases hk with hk | hk
      · exact h.foot a (by simp) k hk
      · exact h.foot b (by simp) k hk
    · exact h.foot x (by simp [hx]) k hk
  · rcases hk with hk | hk
    · exact (h1.1 y (List.mem_cons_of_mem _ hy) k).1 hk
    · exact (h2.1 y hy k).1 hk
  · rcases hk with hk | hk
    · exact (h1.1 y (List.mem_cons_of_mem _ hy) k).2 hk
    · exact (h2.1 y hy k).2 hk
instance NoRd.star (a b : Ent) (L : List Ent) [h : NoRd (a :: b :: L)] : NoRd (eStar a b :: L) := ⟨fun x hx k hk => by
  rcases List.mem_cons.1 hx with rfl | hx
  · rcases hk with hk | hk
    · exact h.no a (by simp) k hk
    · exact h.no b (by simp) k hk
  · exact h.no x (by simp [hx]) k hk⟩
/-- The part that has the key g, and else F. -/
class SlotAt (L : List Ent) (g : Nat) (e : outParam Ent) (F : outParam (List Ent)) : Prop where
  perm : L.Perm (e :: F)
instance SlotAt.miss (x e : Ent) (g : Nat) (L F : List Ent) [h : SlotAt L g e F] : SlotAt (x :: L) g e (x :: F) := ⟨(h.perm.cons x).trans (.swap _ _ _)⟩
theorem St.at_ {S : Nat → Prop} {w0 w : World} {L F : List Ent} {e : Ent} (h : St S w0 w L) (g : Nat) [k : SlotAt L g e F] : St S w0 w (e :: F) := h.perm k.perm
/-- A row of nothing. -/
theorem St.nilRow {S : Nat → Prop} {w0 w : World} {L : List Ent} (h : St S w0 w L) (e : TypeId) (sz : Nat) : St S w0 w (eOwn e sz none 0 0 [] :: L) :=
  h.add (Step.refl _ _) (eOwn e sz none 0 0 []) (Tl.nil w e sz) (fun _ hk => (at_nil hk).elim) (fun _ hk => hk)

/-! ### Slices as they are read -/
class HasSl (L : List Ent) (A : Option Addr) (n c : Nat) (sz : outParam Nat) (xs : outParam (List Value)) : Prop where
  sl : ∀ w, (∀ x ∈ L, x.holds w) → Sl w A n c sz xs
instance (priority := high) HasSl.hit (A : Option Addr) (n c sz : Nat) (xs : List Value) (L : List Ent) : HasSl (eSl A n c sz xs :: L) A n c sz xs := ⟨fun w h => (h _ List.mem_cons_self).2⟩
instance (priority := high) HasSl.own (A : Option Addr) (n c sz : Nat) (xs : List Value) (e : TypeId) (L : List Ent) : HasSl (eOwn e sz A n c xs :: L) A n c sz xs := ⟨fun w h => Tl.sl (h (eOwn e sz A n c xs) List.mem_cons_self)⟩
instance HasSl.miss (x : Ent) (A : Option Addr) (n c sz : Nat) (xs : List Value) (L : List Ent) [h : HasSl L A n c sz xs] : HasSl (x :: L) A n c sz xs := ⟨fun w hw => h.sl w (fun y hy => hw y (List.mem_cons_of_mem _ hy))⟩
/-- The cells xs are so many; each is one cell. -/
class Row (xs : List Value) (n : outParam Nat) : Prop where
  len : xs.length = n
  one : ∀ u ∈ xs, u.oneCell' = true
  small : n ≤ 100000
instance (priority := high) HasSl.blk (g n : Nat) (t : TypeId) (xs : List Value) (L : List Ent) [h : Row xs n] : HasSl (eBlk g t xs :: L) (some ⟨g, 0, none⟩) n n 1 xs := ⟨fun w hw => by
  have hb : Blk w g t xs.toArray := hw (eBlk g t xs) List.mem_cons_self
  exact hb.sl_ h.len (by have := h.small; simp [maxLen]; omega)⟩
theorem St.sl {S : Nat → Prop} {w0 w : World} {L : List Ent} (h : St S w0 w L) (A : Option Addr) (n c : Nat) {sz : Nat} {xs : List Value} [k : HasSl L A n c sz xs] : Sl w A n c sz xs := k.sl w h.holds
/-- One element in a block of its own. -/
theorem St.slBox {S : Nat → Prop} {w0 w : World} {L F : List Ent} (h : St S w0 w L) (g : Nat) {n : Nat} {t : TypeId} {xs : List Value} [k : SlotB L g t xs F] [r : Row xs n] : Sl w (some ⟨g, 0, none⟩) 1 1 n xs :=
  ⟨by rw [r.len, Nat.one_mul], Nat.le_refl _, by simp [maxLen], fun _ => ⟨g, 0, rfl, (h.blk g (k := k)).lt, fun i u hu => by rw [Nat.zero_add, (h.blk g (k := k)).cell]; simpa using hu⟩⟩
/-- All blocks from lo to hi. -/
def eZone (lo hi : Nat) (P : World → Prop) (hP : ∀ {S : Nat → Prop} {w w' : World}, P w → Step S w w' → (∀ k, lo ≤ k → k < hi → ¬ S k) → P w') : Ent where
  own k := lo ≤ k ∧ k < hi
  rd _ := False
  holds w := P w ∧ hi ≤ w.heap.size
  isC := false
  lt h k hk := by rcases hk with hk | hk; exact Nat.lt_of_lt_of_le hk.2 h.2; exact hk.elim
  keep h hs hd := ⟨hP h.1 hs (fun k h1 h2 => hd k (.inl ⟨h1, h2⟩)), Nat.le_trans h.2 hs.size⟩
  cel hc := by cases hc
class SlotZ (L : List Ent) (lo : Nat) (hi : outParam Nat) (P : outParam (World → Prop)) : Prop where
  get : ∀ w, (∀ x ∈ L, x.holds w) → P w
instance (priority := high) SlotZ.hit (lo hi : Nat) (P : World → Prop) (hP : ∀ {S : Nat → Prop} {w w' : World}, P w → Step S w w' → (∀ k, lo ≤ k → k < hi → ¬ S k) → P w') (L : List Ent) : SlotZ (eZone lo hi P hP :: L) lo hi P := ⟨fun w h => (h (eZone lo hi P hP) List.mem_cons_self).1⟩
instance SlotZ.miss (x : Ent) (lo hi : Nat) (P : World → Prop) (L : List Ent) [h : SlotZ L lo hi P] : SlotZ (x :: L) lo hi P := ⟨fun w hw => h.get w (fun y hy => hw y (List.mem_cons_of_mem _ hy))⟩
theorem St.zone {S : Nat → Prop} {w0 w : World} {L : List Ent} (h : St S w0 w L) (lo : Nat) {hi : Nat} {P : World → Prop} [k : SlotZ L lo hi P] : P w := k.get w h.holds
instance NoRd.zone (lo hi : Nat) (P : World → Prop) (hP : ∀ {S : Nat → Prop} {w w' : World}, P w → Step S w w' → (∀ k, lo ≤ k → k < hi → ¬ S k) → P w') (L : List Ent) [h : NoRd L] : NoRd (eZone lo hi P hP :: L) := ⟨fun x hx k hk => by
  rcases List.mem_cons.1 hx with rfl | hx
  · exact hk
  · exact h.no x hx k hk⟩
end Go.Proofs.Ytcmgjoamfjijhaa
