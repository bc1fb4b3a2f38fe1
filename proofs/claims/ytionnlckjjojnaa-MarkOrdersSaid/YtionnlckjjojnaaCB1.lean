/- Lemmas on memory as a list of parts, laid one behind the other; no condition. -/
import Derived.WalkKit
import Derived.Deep.AppendLies
import Derived.Maps.AppendAt
import Derived.Lib.Hide
import Derived.Deep.Draws
import Derived.Deep.QuietTactic
import Derived.BigQuiet
import Derived.WalkLawsBesides
import Derived.WalkSpells
import Derived.Outline
import Derived.WideShapes
import Derived.Deep.DeepCutAuto
import Derived.Stop.BytesEq
import Derived.Deep.MidRow
import Derived.Deep.RegionHeld3
import Derived.RangeFuncNested
import Derived.RangeFuncBound
import Derived.RangeFuncCalls
import Derived.RangeFuncLeaves
import Derived.RangeFuncBox
import Derived.RangeFuncWrites
import Derived.Shelf.Abstract
import Derived.Shelf.RegionOpen
import Derived.OwnWalkIn
import Derived.TacticsInMore
import Derived.LoopNIn
import Derived.LoopIn
import Derived.Laws.IdiomStrings
import Derived.Lib.AppendStr
import Derived.Deep.RegionHeld
import Derived.Great.BuildSlice
import Derived.Laws.CopyOwn
import Derived.StillTail
import Derived.OrdersIn
namespace Go.Proofs.Ytionnlckjjojnaa
open Go.RowKit

/-- The block that a slice's address names. -/
def At (A : Option Addr) (k : Nat) : Prop := ∃ a, A = some a ∧ a.block = k

/-- The block of a slice of n elements; none where there is none. -/
def Ft (A : Option Addr) (n k : Nat) : Prop := 0 < n ∧ At A k
theorem Ft.at_ {A : Option Addr} {n k : Nat} (h : Ft A n k) : At A k := h.2
theorem at_nil {k : Nat} (h : At none k) : False := by obtain ⟨a, h, _⟩ := h; cases h
theorem ft_nil {n k : Nat} (h : Ft none n k) : False := at_nil h.2
theorem ft_zero {A : Option Addr} {k : Nat} (h : Ft A 0 k) : False := by have := h.1; omega

/-- From w to w' nothing has turned but blocks of S, and what is new. -/
structure Step (S : Nat → Prop) (w w' : World) : Prop where
  os : w'.os = w.os
  tape : w'.tape = w.tape
  output : w'.output = w.output
  size : w.heap.size ≤ w'.heap.size
  block : ∀ k, k < w.heap.size → ¬ S k → w'.heap[k]? = w.heap[k]?

theorem Step.refl (S : Nat → Prop) (w : World) : Step S w w := ⟨rfl, rfl, rfl, Nat.le_refl _, fun _ _ _ => rfl⟩
theorem Step.trans {S T : Nat → Prop} {a b c : World} (h : Step S a b) (k : Step T b c) (hT : ∀ i, i < a.heap.size → T i → S i) : Step S a c :=
  ⟨k.os.trans h.os, k.tape.trans h.tape, k.output.trans h.output, Nat.le_trans h.size k.size,
    fun i hi hs => (k.block i (Nat.lt_of_lt_of_le hi h.size) (fun ht => hs (hT i hi ht))).trans (h.block i hi hs)⟩
theorem Step.tr {S : Nat → Prop} {a b c : World} (h : Step S a b) (k : Step S b c) : Step S a c := h.trans k fun _ _ h => h
theorem Step.mono {S T : Nat → Prop} {a b : World} (h : Step S a b) (hT : ∀ i, i < a.heap.size → S i → T i) : Step T a b :=
  ⟨h.os, h.tape, h.output, h.size, fun i hi ht => h.block i hi (fun hs => ht (hT i hi hs))⟩
theorem Step.drew {S : Nat → Prop} {a b : World} (h : Step S a b) : Step S a b.drew := ⟨h.os, h.tape, h.output, h.size, h.block⟩
theorem Step.drewN {S : Nat → Prop} {a b : World} (h : Step S a b) (n : Nat) : Step S a (b.drewN n) := ⟨h.os, h.tape, h.output, h.size, h.block⟩
theorem Step.alloc {S : Nat → Prop} {a b : World} (h : Step S a b) (o : Obj) : Step S a (b.alloc o) :=
  ⟨h.os, h.tape, h.output, Nat.le_trans h.size (by simp), fun i hi hs => (Below.heap_alloc b o i (Nat.lt_of_lt_of_le hi h.size)).trans (h.block i hi hs)⟩
theorem Step.setCell {S : Nat → Prop} {a b : World} (h : Step S a b) {p : Addr} (hp : S p.block ∨ a.heap.size ≤ p.block) (u : Value) : Step S a (b.setCell p u) :=
  ⟨h.os, h.tape, h.output, by simpa [World.setCell] using h.size, fun i hi hs => (Below.heap_setCell b p u i (by
    rintro rfl
    rcases hp with hp | hp
    · exact hs hp
    · omega)).trans (h.block i hi hs)⟩
theorem Step.set1 (w : World) (g i : Nat) (u : Value) : Step (fun k => k = g) w (w.setCell ⟨g, i, none⟩ u) := Step.setCell (S := fun k => k = g) (Step.refl _ _) (p := ⟨g, i, none⟩) (.inl rfl) u
theorem Step.of_below {w w' : World} (h : Below w.heap.size w w') (S : Nat → Prop) : Step S w w' := ⟨h.os, h.tape, h.output, h.size, fun i hi _ => h.block i hi⟩
theorem Step.below {w w' : World} (h : Step (fun _ => False) w w') : Below w.heap.size w w' := ⟨h.os, h.tape, h.output, h.size, fun i hi => h.block i hi (fun e => e)⟩
theorem Step.belowB {S : Nat → Prop} {B : Nat} {w w' : World} (h : Step S w w') (hB : B ≤ w.heap.size) (hs : ∀ k, k < B → ¬ S k) : Below B w w' := ⟨h.os, h.tape, h.output, h.size, fun i hi => h.block i (Nat.lt_of_lt_of_le hi hB) (hs i hi)⟩
theorem Step.cell {S : Nat → Prop} {w w' : World} (h : Step S w w') {p : Addr} {v : Value} (hc : w.cell? p = some v) (hs : ¬ S p.block) : w'.cell? p = some v :=
  (World.cell?_of_block (h.block p.block (World.block_lt_of_cell? w p hc) hs)).trans hc

theorem add_none (b o n : Nat) : (⟨b, o, none⟩ : Addr).add n = ⟨b, o + n, none⟩ := by
  unfold Addr.add; split <;> simp_all

/-- Block g is just the cells cs of element type t, none frozen. -/
def Blk (w : World) (g : Nat) (t : TypeId) (cs : Array Value) : Prop := w.heap[g]? = some (.cells cs t (0, 0))

section
variable {w w' : World} {g : Nat} {t : TypeId} {cs : Array Value}
theorem Blk.lt (h : Blk w g t cs) : g < w.heap.size := (Array.getElem?_eq_some_iff.1 h).1
theorem Blk.cell (h : Blk w g t cs) (i : Nat) : w.cell? ⟨g, i, none⟩ = cs[i]? := cell_of_row w g i cs t (0, 0) h
theorem Blk.frozen (h : Blk w g t cs) (i : Nat) : w.frozen? ⟨g, i, none⟩ = false := by unfold Blk at h; simp [World.frozen?, h]
theorem Blk.new (w : World) (t : TypeId) (cs : Array Value) : Blk (w.alloc (.cells cs t)) w.heap.size t cs := heap_alloc_new w _
theorem Blk.drew (h : Blk w g t cs) : Blk w.drew g t cs := h
theorem Blk.drewN (h : Blk w g t cs) (n : Nat) : Blk (w.drewN n) g t cs := h
theorem Blk.alloc (h : Blk w g t cs) (o : Obj) : Blk (w.alloc o) g t cs := (Below.heap_alloc w o g h.lt).trans h
theorem Blk.set_ (h : Blk w g t cs) (i : Nat) (u : Value) : Blk (w.setCell ⟨g, i, none⟩ u) g t (cs.setIfInBounds i u) := by
  unfold Blk at h ⊢
  simp [World.setCell, Array.getElem?_modify, h]
theorem Blk.far (h : Blk w g t cs) {p : Addr} (hp : g ≠ p.block) (u : Value) : Blk (w.setCell p u) g t cs := (Below.heap_setCell w p u g hp).trans h
theorem Blk.step {S : Nat → Prop} (h : Blk w g t cs) (hs : Step S w w') (hg : ¬ S g) : Blk w' g t cs := (hs.block g h.lt hg).trans h
theorem Blk.ne_ {g' : Nat} {t' : TypeId} {cs' : Array Value} (h : Blk w g t cs) (h' : Blk w g' t' cs') (hne : t ≠ t') : g ≠ g' := by
  rintro rfl
  unfold Blk at h h'
  rw [h] at h'
  injection h' with h'
  injection h' with _ ht
  exact hne ht
end

/-- The slice value '.slice A n c' holds the cells xs (sz cells each element). -/
structure Sl (w : World) (A : Option Addr) (n c sz : Nat) (xs : List Value) : Prop where
  len : xs.length = n * sz
  le : n ≤ c
  cap : c ≤ maxLen
  rd : xs ≠ [] → ∃ b off, A = some ⟨b, off, none⟩ ∧ b < w.heap.size ∧ ∀ i u, xs[i]? = some u → w.cell? ⟨b, off + i, none⟩ = some u

section
variable {w w' : World} {A : Option Addr} {n c sz : Nat} {xs : List Value}
theorem Sl.nil (w : World) (sz : Nat) : Sl w none 0 0 sz [] := ⟨by simp, Nat.le_refl _, by simp [maxLen], fun h => absurd rfl h⟩
theorem Sl.npos (h : Sl w A n c sz xs) (hx : xs ≠ []) : 0 < n := by
  rcases Nat.eq_zero_or_pos n with rfl | h'
  · exact absurd (List.eq_nil_of_length_eq_zero (by rw [h.len, Nat.zero_mul])) hx
  · exact h'
theorem Sl.step {S : Nat → Prop} (h : Sl w A n c sz xs) (hs : Step S w w') (hd : ∀ k, Ft A n k → ¬ S k) : Sl w' A n c sz xs :=
  ⟨h.len, h.le, h.cap, fun hx => by
    obtain ⟨b, off, e, hb, hc⟩ := h.rd hx
    exact ⟨b, off, e, Nat.lt_of_lt_of_le hb hs.size, fun i u hu => hs.cell (hc i u hu) (hd b ⟨h.npos hx, _, e, rfl⟩)⟩⟩
theorem Sl.ft_lt (h : Sl w A n c sz xs) (hsz : 0 < sz) {k : Nat} (hk : Ft A n k) : k < w.heap.size := by
  obtain ⟨hn, a, rfl, rfl⟩ := hk
  have hx : xs ≠ [] := by
    intro e
    have := h.len
    rw [e] at this
    have h2 := Nat.mul_pos hn hsz
    simp at this
    omega
  obtain ⟨b, off, e, hb, _⟩ := h.rd hx
  injection e with e
  subst e
  exact hb
theorem Sl.keep (h : Sl w A n c sz xs) (hs : Step (fun _ => False) w w') : Sl w' A n c sz xs := h.step hs fun _ _ h => h
theorem Sl.drew (h : Sl w A n c sz xs) : Sl w.drew A n c sz xs := h.keep ((Step.refl _ _).drew)
theorem Sl.alloc (h : Sl w A n c sz xs) (o : Obj) : Sl (w.alloc o) A n c sz xs := h.keep ((Step.refl _ _).alloc o)
theorem Sl.pos (h : Sl w A n c sz xs) (hn : 0 < n * sz) : ∃ b off, A = some ⟨b, off, none⟩ ∧ b < w.heap.size ∧ ∀ i u, xs[i]? = some u → w.cell? ⟨b, off + i, none⟩ = some u :=
  h.rd (by intro e; rw [e] at h; have := h.len; simp at this; omega)
theorem Sl.adds (h : Sl w A n c sz xs) {a : Addr} (e : A = some a) : ∀ j u, xs[j]? = some u → w.cell? (a.add j) = some u := by
  intro j u hu
  have hx : xs ≠ [] := by rintro rfl; simp at hu
  obtain ⟨b, off, e', _, hc⟩ := h.rd hx
  rw [e] at e'
  injection e' with e'
  subst e'
  rw [add_none]
  exact hc j u hu
/-- s[i:j], as the model writes it. -/
theorem Sl.cut (h : Sl w A n c sz xs) {i j m : Nat} (hij : i ≤ j) (hjn : j ≤ n) (hm : m ≤ c) (hjm : j ≤ m) :
    Sl w (if m = i then A else A.map (·.add (i * sz))) (j - i) (m - i) sz ((xs.drop (i * sz)).take ((j - i) * sz)) := by
  refine ⟨?_, by omega, by have := h.cap; omega, fun hx => ?_⟩
  · rw [List.length_take, List.length_drop, h.len]
    have h1 : j * sz ≤ n * sz := Nat.mul_le_mul_right _ hjn
    have h2 : (j - i) * sz = j * sz - i * sz := Nat.sub_mul ..
    omega
  · have hne : i ≠ j := by rintro rfl; simp at hx
    have hxs : xs ≠ [] := by rintro rfl; simp at hx
    obtain ⟨b, off, rfl, hb, hc⟩ := h.rd hxs
    rw [if_neg (by omega)]
    refine ⟨b, off + i * sz, by simp [add_none], hb, fun k u hu => ?_⟩
    rw [List.getElem?_take] at hu
    split at hu
    · rw [List.getElem?_drop] at hu
      rw [Nat.add_assoc]
      exact hc _ u hu
    · cases hu
/-- s[:j], s[:j:m]. -/
theorem Sl.take (h : Sl w A n c sz xs) {j m : Nat} (hjn : j ≤ n) (hm : m ≤ c) (hjm : j ≤ m) : Sl w A j m sz (xs.take (j * sz)) := by
  refine ⟨?_, hjm, by have := h.cap; omega, fun hx => ?_⟩
  · rw [List.length_take, h.len]
    have h1 : j * sz ≤ n * sz := Nat.mul_le_mul_right _ hjn
    omega
  · have hxs : xs ≠ [] := by rintro rfl; simp at hx
    obtain ⟨b, off, rfl, hb, hc⟩ := h.rd hxs
    refine ⟨b, off, rfl, hb, fun k u hu => hc k u ?_⟩
    rw [List.getElem?_take] at hu
    split at hu
    · exact hu
    · cases hu
/-- s[i:]. -/
theorem Sl.drop (h : Sl w A n c sz xs) {i : Nat} (hin : i ≤ n) : Sl w (if c = i then A else A.map (·.add (i * sz))) (n - i) (c - i) sz (xs.drop (i * sz)) := by
  have := h.cut hin (Nat.le_refl n) (Nat.le_refl c) h.le
  rwa [List.take_of_length_le (by rw [List.length_drop, h.len, Nat.sub_mul]; exact Nat.le_refl _)] at this
theorem ft_cut {p : Prop} [Decidable p] {i k m : Nat} (h : Ft (if p then A else A.map (·.add m)) (n - i) k) : Ft A n k := by
  refine ⟨by have := h.1; omega, ?_⟩
  have h := h.2
  split at h
  · exact h
  · obtain ⟨a, e, rfl⟩ := h
    cases A with
    | none => cases e
    | some a' =>
      injection e with e
      subst e
      refine ⟨a', rfl, ?_⟩
      unfold Addr.add; split <;> rfl
theorem at_cut {p : Prop} [Decidable p] {k m : Nat} (h : At (if p then A else A.map (·.add m)) k) : At A k := by
  split at h
  · exact h
  · obtain ⟨a, e, rfl⟩ := h
    cases A with
    | none => cases e
    | some a' =>
      injection e with e
      subst e
      refine ⟨a', rfl, ?_⟩
      unfold Addr.add; split <;> rfl
theorem Sl.at_ (h : Sl w A n c 1 xs) {k : Nat} (hk : k < n) : ∃ b off, A = some ⟨b, off, none⟩ ∧ ∃ u, xs[k]? = some u ∧ w.cell? ⟨b, off + k, none⟩ = some u := by
  obtain ⟨b, off, e, _, hc⟩ := h.pos (by omega)
  have hl : k < xs.length := by have := h.len; omega
  exact ⟨b, off, e, xs[k], List.getElem?_eq_getElem hl, hc k _ (List.getElem?_eq_getElem hl)⟩
end

/-- A row of the call's own: nil, or a block whose first cells are xs. -/
def Own (w : World) (e : TypeId) (sz : Nat) (A : Option Addr) (n c : Nat) (xs : List Value) : Prop := w.ownsRow 0 e sz (.slice A n c) n xs

section
variable {w w' : World} {e : TypeId} {A : Option Addr} {n c sz : Nat} {xs : List Value}
theorem Own.nil (w : World) (e : TypeId) (sz : Nat) : Own w e sz none 0 0 [] := World.ownsRow_nil w 0 e sz
theorem Own.form (h : Own w e sz A n c xs) : (A = none ∧ n = 0 ∧ c = 0 ∧ xs = []) ∨ ∃ g cur, A = some ⟨g, 0, none⟩ ∧ Blk w g e cur ∧ n ≤ c ∧ c ≤ maxLen ∧ cur.size = c * sz ∧ cur.toList.take (n * sz) = xs := by
  rcases h.2 with ⟨hv, hn⟩ | ⟨g, cap, cur, hv, _, hg, h1, h2, h3, h4⟩
  · injection hv with h1 h2 h3
    exact .inl ⟨h1, h2, h3, List.eq_nil_of_length_eq_zero (by rw [h.1, hn, Nat.zero_mul])⟩
  · injection hv with h1' h2' h3'
    subst h1' h3'
    exact .inr ⟨g, cur, rfl, hg, h1, h2, h3, h4⟩
theorem Own.lt (h : Own w e sz A n c xs) : ∀ k, At A k → k < w.heap.size := by
  rintro k ⟨a, rfl, rfl⟩
  rcases h.form with ⟨h', _⟩ | ⟨g, cur, h', hg, _⟩
  · cases h'
  · injection h' with h'; subst h'; exact hg.lt
theorem Own.ne_blk {g : Nat} {t : TypeId} {cs : Array Value} (h : Own w e sz A n c xs) (hb : Blk w g t cs) (hne : e ≠ t) : ¬ At A g := by
  rintro ⟨a, rfl, rfl⟩
  rcases h.form with ⟨h', _⟩ | ⟨g, cur, h', hg, _⟩
  · cases h'
  · injection h' with h'; subst h'; exact hg.ne_ hb hne rfl
theorem Own.sl (h : Own w e sz A n c xs) : Sl w A n c sz xs := by
  rcases h.form with ⟨rfl, rfl, rfl, rfl⟩ | ⟨g, cur, rfl, hg, h1, h2, h3, h4⟩
  · exact Sl.nil w sz
  · refine ⟨h.1, h1, h2, fun _ => ⟨g, 0, rfl, hg.lt, fun i u hu => ?_⟩⟩
    rw [Nat.zero_add, hg.cell]
    rw [← h4, List.getElem?_take] at hu
    split at hu
    · simpa using hu
    · cases hu
theorem Own.step {S : Nat → Prop} (h : Own w e sz A n c xs) (hs : Step S w w') (hd : ∀ k, At A k → ¬ S k) : Own w' e sz A n c xs := by
  refine ⟨h.1, ?_⟩
  rcases h.form with ⟨rfl, rfl, rfl, rfl⟩ | ⟨g, cur, rfl, hg, h1, h2, h3, h4⟩
  · exact .inl ⟨rfl, rfl⟩
  · exact .inr ⟨g, c, cur, rfl, Nat.zero_le _, hg.step hs (hd g ⟨_, rfl, rfl⟩), h1, h2, h3, h4⟩
theorem Own.keep (h : Own w e sz A n c xs) (hs : Step (fun _ => False) w w') : Own w' e sz A n c xs := h.step hs fun _ _ h => h
theorem Own.alloc (h : Own w e sz A n c xs) (o : Obj) : Own (w.alloc o) e sz A n c xs := h.keep ((Step.refl _ _).alloc o)
theorem Own.drew (h : Own w e sz A n c xs) : Own w.drew e sz A n c xs := h
end

theorem ownBlock_at {A : Option Addr} (n c : Nat) {k : Nat} : (Value.slice A n c).ownBlock = some k ↔ At A k := by
  cases A with
  | none => simp [Value.ownBlock, At]
  | some a => simp [Value.ownBlock, At]

/-- An operation whose guard says yes (or that has none: 'rfl' too). -/
theorem wpList_want {P : Program} {ops : Array Oper} {Q : Exit → Act → World → Prop} {a : Act} {w : World} {rest : List Oper} {o : Oper} (hw : Region.wanted o (yielded ops a.tmps) = true)
    (h : ∀ K : Act → World → Prop, (∀ a w, wpList P ops Q rest a w → K a w) → o.wp P a w K Q) : wpList P ops Q (o :: rest) a w :=
  wpList_step fun K hK => by simp only [hw, if_true]; exact h K hK

section
variable {P : Program} (w : World)

theorem run_append_of_nil (t ty e : TypeId) (i : TypeInfo) (sz : Nat) (ht : P.underlying t = some (.slice e)) (hi : P.info? e = some i)
    (A : Option Addr) (n c : Nat) (xs : List Value) (hown : Own w e sz A n c xs) (d : Nat) : (Builtin.append_ #[t, t] ty #[.slice A n c, .slice none 0 d]).run P w = .ok (.slice A n c) w := by
  rcases hown.form with ⟨rfl, rfl, rfl, rfl⟩ | ⟨g, cur, rfl, hg, hnc, _⟩
  · simp [Builtin.append_, run_underlying ht, sizeOf, typeInfo, hi, Builtin.lenOf, Builtin.firstCells]
  · simp [Builtin.append_, run_underlying ht, sizeOf, typeInfo, hi, Builtin.lenOf, Builtin.firstCells, hnc, storeCells]

theorem run_append (t ty e : TypeId) (i : TypeInfo) (z : Value) (sz bytes : Nat) (ht : P.underlying t = some (.slice e)) (hi : P.info? e = some i) (hz : i.zero = some z)
    (hsize : i.size = sz) (hby : i.bytes = bytes) (hzs : z.cells.size = sz) (hsz : 0 < sz)
    (A : Option Addr) (n c : Nat) (xs : List Value) (hown : Own w e sz A n c xs)
    (B : Option Addr) (m d : Nat) (ys : List Value) (hr : Sl w B m d sz ys) (h1 : ∀ u ∈ ys, u.oneCell' = true)
    (h63 : n + m ≤ maxLen) (hbytes : (n + m) * bytes ≤ 140737488355328) :
    ∃ A' c' w', (Builtin.append_ #[t, t] ty #[.slice A n c, .slice B m d]).run P w = .ok (.slice A' (n + m) c') w' ∧ Own w' e sz A' (n + m) c' (xs ++ ys) ∧ Step (At A) w w' ∧
      (∀ k, At A' k → At A k ∨ w.heap.size ≤ k) := by
  by_cases hm : m = 0
  · subst hm
    have hys : ys = [] := List.eq_nil_of_length_eq_zero (by rw [hr.len, Nat.zero_mul])
    subst hys
    rcases B with _ | b
    · exact ⟨A, c, w, run_append_of_nil w t ty e i sz ht hi A n c xs hown d, by simpa using hown, Step.refl _ _, fun k hk => .inl hk⟩
    · obtain ⟨v', w', hrun, h2, h3, _, h5⟩ := run_append_own_at (P := P) w 0 t ty e i z sz bytes ht hi hz hsize hby hzs hsz (.slice A n c) n xs hown b 0 d [] (by simp) (fun j u hu => by simp at hu) h1 h63 hbytes (Nat.zero_le _)
      have hv : ∃ A' c', v' = .slice A' (n + 0) c' := by
        rcases h2.2 with ⟨h, h'⟩ | ⟨g, cap, cur, h, _⟩
        · exact ⟨none, 0, by rw [h, h']⟩
        · exact ⟨_, _, h⟩
      obtain ⟨A', c', rfl⟩ := hv
      exact ⟨A', c', w', hrun, h2, ⟨h3.os, h3.tape, h3.output, h3.size, fun k hk hs => h3.block k hk (fun e => hs ((ownBlock_at _ _).1 e.symm))⟩, fun k hk => by
        rcases h5 with h5 | h5
        · exact .inl ((ownBlock_at n c).1 (h5 ▸ (ownBlock_at _ c').2 hk))
        · have := (ownBlock_at (n + 0) c').2 hk; rw [h5] at this; injection this with this; exact .inr (by omega)⟩
  · obtain ⟨b, off, rfl, _, hc⟩ := hr.pos (Nat.mul_pos (by omega) hsz)
    obtain ⟨v', w', hrun, h2, h3, _, h5⟩ := run_append_own_at (P := P) w 0 t ty e i z sz bytes ht hi hz hsize hby hzs hsz (.slice A n c) n xs hown ⟨b, off, none⟩ m d ys hr.len (hr.adds rfl) h1 h63 hbytes (Nat.zero_le _)
    have hv : ∃ A' c', v' = .slice A' (n + m) c' := by
      rcases h2.2 with ⟨h, h'⟩ | ⟨g, cap, cur, h, _⟩
      · exact ⟨none, 0, by rw [h, h']⟩
      · exact ⟨_, _, h⟩
    obtain ⟨A', c', rfl⟩ := hv
    exact ⟨A', c', w', hrun, h2, ⟨h3.os, h3.tape, h3.output, h3.size, fun k hk hs => h3.block k hk (fun e => hs ((ownBlock_at _ _).1 e.symm))⟩, fun k hk => by
      rcases h5 with h5 | h5
      · exact .inl ((ownBlock_at n c).1 (h5 ▸ (ownBlock_at _ c').2 hk))
      · have := (ownBlock_at (n + m) c').2 hk; rw [h5] at this; injection this with this; exact .inr (by omega)⟩

/-- append at the walk: '(at_builtin; refine wl_append _ rfl s x t rfl e i z sz bytes A.underlyingT hi hz hs hb rfl (by omega) A n c xs rfl hown B m d ys rfl hsrc h1 h63 hbytes ?_; intro A' c' w' hown' hstep hat)'. -/
theorem wl_append {ops : Array Oper} {rest : List Oper} {o : Oper} {a : Act} {Q : Exit → Act → World → Prop} (hgd : Region.wanted o (yielded ops a.tmps) = true) (s x : Operand) (t : TypeId)
    (ho : o.op = .call { callee := .builtin .append, args := #[s, x], argTypes := #[t, t] })
    (e : TypeId) (i : TypeInfo) (z : Value) (sz bytes : Nat) (ht : P.underlying t = some (.slice e)) (hi : P.info? e = some i) (hz : i.zero = some z)
    (hsize : i.size = sz) (hby : i.bytes = bytes) (hzs : z.cells.size = sz) (hsz : 0 < sz)
    (A : Option Addr) (n c : Nat) (xs : List Value) (hs : a.eval s = .slice A n c) (hown : Own w e sz A n c xs)
    (B : Option Addr) (m d : Nat) (ys : List Value) (hx : a.eval x = .slice B m d) (hr : Sl w B m d sz ys) (h1 : ∀ u ∈ ys, u.oneCell' = true)
    (h63 : n + m ≤ maxLen) (hbytes : (n + m) * bytes ≤ 140737488355328)
    (h : ∀ A' c' w', Own w' e sz A' (n + m) c' (xs ++ ys) → Step (At A) w w' → (∀ k, At A' k → At A k ∨ w.heap.size ≤ k) → wpList P ops Q rest (a.put o.dst (.slice A' (n + m) c')) w') : wpList P ops Q (o :: rest) a w := by
  refine wpList_want hgd fun K hK => ?_
  obtain ⟨A', c', w', hrun, h2, h3, h4⟩ := run_append (P := P) w t o.type e i z sz bytes ht hi hz hsize hby hzs hsz A n c xs hown B m d ys hr h1 h63 hbytes
  unfold Oper.wp execOp
  simp only [ho, resolve, invoke, builtin, Sem.run_bind, Sem.run_pure, Result.andThen_ok, List.map_toArray, List.map_cons, List.map_nil, hs, hx, hrun]
  exact hK _ _ (h A' c' w' h2 h3 h4)

/-- append onto nil: a row of its own that is new. -/
theorem wl_append_new {ops : Array Oper} {rest : List Oper} {o : Oper} {a : Act} {Q : Exit → Act → World → Prop} (hgd : Region.wanted o (yielded ops a.tmps) = true) (s x : Operand) (t : TypeId)
    (ho : o.op = .call { callee := .builtin .append, args := #[s, x], argTypes := #[t, t] })
    (e : TypeId) (i : TypeInfo) (z : Value) (sz bytes : Nat) (ht : P.underlying t = some (.slice e)) (hi : P.info? e = some i) (hz : i.zero = some z)
    (hsize : i.size = sz) (hby : i.bytes = bytes) (hzs : z.cells.size = sz) (hsz : 0 < sz) (hs : a.eval s = .slice none 0 0)
    (B : Option Addr) (m d : Nat) (ys : List Value) (hx : a.eval x = .slice B m d) (hr : Sl w B m d sz ys) (h1 : ∀ u ∈ ys, u.oneCell' = true)
    (h63 : m ≤ maxLen) (hbytes : m * bytes ≤ 140737488355328)
    (h : ∀ A' c' w', Own w' e sz A' m c' ys → Step (fun _ => False) w w' → (∀ k, At A' k → w.heap.size ≤ k ∧ k < w'.heap.size) → wpList P ops Q rest (a.put o.dst (.slice A' m c')) w') : wpList P ops Q (o :: rest) a w := by
  refine wl_append w hgd s x t ho e i z sz bytes ht hi hz hsize hby hzs hsz none 0 0 [] hs (Own.nil _ _ _) B m d ys hx hr h1 (by omega) (by simpa using hbytes) ?_
  intro A' c' w' hown hst hat
  rw [Nat.zero_add, List.nil_append] at hown
  rw [Nat.zero_add]
  refine h A' c' w' hown (hst.mono ?_) fun k hk => ⟨?_, hown.lt k hk⟩
  · rintro k _ ⟨a, h, _⟩; cases h
  · rcases hat k hk with ⟨a, h, _⟩ | h
    · cases h
    · exact h
end

/-- Bytes as cells. -/
def u8v (x : UInt8) : Value := .int .u8 (x.toNat : Int)
def u8s (l : List UInt8) : List Value := l.map u8v
theorem u8s_one (l : List UInt8) : ∀ u ∈ u8s l, u.oneCell' = true := by
  intro u hu
  simp only [u8s, List.mem_map] at hu
  obtain ⟨x, _, rfl⟩ := hu
  rfl
theorem u8s_append (l m : List UInt8) : u8s l ++ u8s m = u8s (l ++ m) := by simp [u8s]
theorem u8s_take (l : List UInt8) (n : Nat) : (u8s l).take n = u8s (l.take n) := by simp [u8s]
theorem u8s_drop (l : List UInt8) (n : Nat) : (u8s l).drop n = u8s (l.drop n) := by simp [u8s]
theorem u8s_get (l : List UInt8) (i : Nat) (h : i < l.length) : (u8s l)[i]? = some (u8v l[i]) := by simp [u8s, h]

theorem Sl.n_eq {w : World} {A : Option Addr} {n c : Nat} {l : List UInt8} (h : Sl w A n c 1 (u8s l)) : n = l.length := by
  have := h.len; simp [u8s] at this; omega

/-- A string of the bytes l. -/
def str (l : List UInt8) : ByteArray := ⟨l.toArray⟩
theorem str_size (l : List UInt8) : (str l).size = l.length := by simp [str, ByteArray.size]
theorem str_data (l : List UInt8) : (str l).data.toList = l := by simp [str]
theorem str_of (s : ByteArray) : s = str s.data.toList := rfl
theorem toList_data (s : ByteArray) : s.toList = s.data.toList := by
  exact ByteArray.toList_eq s
theorem str_toList (l : List UInt8) : (str l).toList = l := by rw [toList_data, str_data]

theorem str_extract (l : List UInt8) (a b : Nat) : (str l).extract a b = str ((l.take b).drop a) := by
  apply Go.WideShapes.bytes_inj
  rw [str_data, ByteArray.data_extract]
  simp [str, List.drop_take]
theorem str_get (l : List UInt8) (i : Nat) (h : i < (str l).size) : (str l)[i] = l[i]'(by rw [str_size] at h; exact h) := rfl
theorem run_bytes_string {P : Program} {w : World} {src dst e : TypeId} {A : Option Addr} {n c : Nat} {l : List UInt8} (hs : P.underlying src = some (.slice e)) (he : P.underlying e = some (.int .u8)) (hd : P.underlying dst = some .string)
    (h : Sl w A n c 1 (u8s l)) (k : Nat) : (convert src dst (.slice A n c)).run P (w.drewN k) = .ok (.string (str l)) (w.drewN k) := by
  rw [run_convert_bytes_string _ src dst e A n c hs he hd]
  have hn : n = l.length := by have := h.len; simp [u8s] at this; omega
  subst hn
  cases A with
  | none =>
    have hl : l = [] := by
      rcases l with _ | ⟨x, l⟩
      · rfl
      · obtain ⟨b, off, e, _⟩ := h.pos (by simp)
        cases e
    subst hl
    simp [Conv.bytesToString, str, Sem.run_pure]
    rfl
  | some a =>
    rw [run_bytesToString (w.drewN k) a l.length c (l.map fun b => (b.toNat : Int)) ?_, foldl_push_byteCells]
    · simp [str]
    · have e : (l.map fun b => (b.toNat : Int)).map (Value.int .u8) = u8s l := by rw [List.map_map]; rfl
      rw [e]
      have := run_loadCells_list (P := P) (w.drewN k) a (u8s l) (fun j v hv => by simpa using h.adds rfl j v hv)
      simpa [u8s] using this
/-- The fact for a walk: at this world and behind draws. -/
theorem run_bytes_string0 {P : Program} {w : World} {src dst e : TypeId} {A : Option Addr} {n c : Nat} {l : List UInt8} (hs : P.underlying src = some (.slice e)) (he : P.underlying e = some (.int .u8)) (hd : P.underlying dst = some .string)
    (h : Sl w A n c 1 (u8s l)) : (convert src dst (.slice A n c)).run P w = .ok (.string (str l)) w := run_bytes_string hs he hd h 0

theorem quiet_left {P : Program} {f : FuncId} {args : Array Value} {w : World} {n : Nat} {v : Value}
    (h : Calls P f args (w.drewN n) fun e w' => e = .returned v ∧ w.drewN n = w') : Calls P f args (w.drewN n) fun e w'' => e = .returned v ∧ ∃ m, w'' = w.drewN m :=
  h.mono fun _ _ ⟨he, hm⟩ => ⟨he, n, hm.symm⟩
theorem quiet_add_left {P : Program} {f : FuncId} {args : Array Value} {w : World} {a n : Nat} {v : Value}
    (h : Calls P f args (w.drewN (a + n)) fun e w' => e = .returned v ∧ w.drewN (a + n) = w') :
    Calls P f args (w.drewN (a + n)) fun e w'' => e = .returned v ∧ ∃ m, w'' = w.drewN (a + m) :=
  h.mono fun _ _ ⟨he, hm⟩ => ⟨he, n, hm.symm⟩

/-- Texts as cells. -/
def strv (l : List UInt8) : Value := .string (str l)
def strs (l : List (List UInt8)) : List Value := l.map strv
theorem strs_length (l : List (List UInt8)) : (strs l).length = l.length := by simp [strs]
theorem strs_get (l : List (List UInt8)) {i : Nat} (h : i < l.length) : (strs l)[i]? = some (strv l[i]) := by simp [strs, h]
theorem strs_one (l : List (List UInt8)) : ∀ u ∈ strs l, u.oneCell' = true := by
  intro u hu
  simp only [strs, List.mem_map] at hu
  obtain ⟨x, _, rfl⟩ := hu
  rfl
theorem Sl.n_strs {w : World} {A : Option Addr} {n c : Nat} {l : List (List UInt8)} (h : Sl w A n c 1 (strs l)) : n = l.length := by have := h.len; simp [strs] at this; omega

end Go.Proofs.Ytionnlckjjojnaa
namespace Go.Proofs.Ytionnlckjjojnaa
open Go.RowKit

/-- An array of bytes as a value. -/
def arr (l : List UInt8) : Value := .agg (u8s l).toArray
theorem u8s_length (l : List UInt8) : (u8s l).length = l.length := by simp [u8s]
def zeros (n : Nat) : List UInt8 := List.replicate n 0
theorem zeros_length (n : Nat) : (zeros n).length = n := by simp [zeros]

section
variable {P : Program} {w : World}

/-- The cells xs stand at place off of block g. -/
abbrev Cells (w : World) (g off : Nat) (xs : List Value) : Prop := w.rangeAt g off xs

theorem Blk.cells {g : Nat} {t : TypeId} {cs : Array Value} (h : Blk w g t cs) : Cells w g 0 cs.toList := fun i u hu => by
  rw [Nat.zero_add, h.cell]; simpa using hu
theorem Blk.part {g : Nat} {t : TypeId} {cs : Array Value} (h : Blk w g t cs) {off : Nat} {xs : List Value} (hx : (cs.toList.drop off).take xs.length = xs) : Cells w g off xs := fun i u hu => by
  rw [h.cell]
  have hi : i < xs.length := (List.getElem?_eq_some_iff.1 hu).1
  rw [← hx, List.getElem?_take, if_pos hi, List.getElem?_drop] at hu
  simpa using hu
theorem Cells.step {w' : World} {S : Nat → Prop} {g off : Nat} {xs : List Value} (h : Cells w g off xs) (hs : Step S w w') (hg : ¬ S g) : Cells w' g off xs := fun i u hu => hs.cell (h i u hu) hg
theorem Sl.cells {A : Option Addr} {n c sz : Nat} {xs : List Value} (h : Sl w A n c sz xs) {b off : Nat} (e : A = some ⟨b, off, none⟩) : Cells w b off xs := fun i u hu => by
  have := h.adds e i u hu
  rwa [add_none] at this

theorem run_loadVar_agg {ty : TypeId} {d : TypeDesc} {g off : Nat} {xs : List Value} (hu : P.underlying ty = some d) (hd : (match d with | .struct _ | .array _ _ => true | _ => false) = true) (hi : (P.info? ty).map (·.size) = some xs.length)
    (h : Cells w g off xs) : (loadVar ty ⟨g, off, none⟩).run P w = .ok (.agg xs.toArray) w := by
  have hl := run_loadCells_list (P := P) w ⟨g, off, none⟩ xs (fun j v hv => by rw [add_none]; exact h j v hv)
  cases hq : P.info? ty with
  | none => simp [hq] at hi
  | some i =>
    have hs : i.size = xs.length := by simpa [hq] using hi
    have hagg : (isAgg ty).run P w = .ok true w := by
      unfold isAgg
      rw [Sem.run_bind, run_underlying hu w]
      cases d <;> simp_all
    simp [loadVar, Sem.run_bind, hagg, sizeOf, typeInfo, hq, hs, hl]

/-- A whole array or struct loaded. -/
theorem wl_load {ops : Array Oper} {rest : List Oper} {o : Oper} {a : Act} {Q : Exit → Act → World → Prop} (hgd : Region.wanted o (yielded ops a.tmps) = true) (ty : TypeId) (x : Operand) (ho : o.op = .load ty x)
    (g off : Nat) (hx : a.eval x = .pointer (some ⟨g, off, none⟩)) (xs : List Value) (d : TypeDesc) (hu : P.underlying ty = some d) (hd : (match d with | .struct _ | .array _ _ => true | _ => false) = true) (hi : (P.info? ty).map (·.size) = some xs.length)
    (h : Cells w g off xs) (hk : wpList P ops Q rest (a.put o.dst (.agg xs.toArray)) w) : wpList P ops Q (o :: rest) a w := by
  refine wpList_want hgd fun K hK => ?_
  unfold Oper.wp execOp
  simp only [ho, hx, Instr.loadAt, Instr.sureAddr, Sem.run_bind, Sem.run_pure, Result.andThen_ok, run_loadVar_agg hu hd hi h]
  exact hK _ _ hk

theorem Blk.setRow {g : Nat} {t : TypeId} {cs : Array Value} (h : Blk w g t cs) (cs' : Array Value) : Blk (w.setRow g cs') g t cs' ∧ Step (fun k => k = g) w (w.setRow g cs') :=
  ⟨setRow_heap w g cs cs' t _ h, ⟨rfl, rfl, rfl, by simp, fun k _ hk => setRow_other w g k _ hk⟩⟩

/-- A whole array or struct stored. -/
theorem wl_store {ops : Array Oper} {rest : List Oper} {o : Oper} {a : Act} {Q : Exit → Act → World → Prop} (hgd : Region.wanted o (yielded ops a.tmps) = true) (ty : TypeId) (x y : Operand) (ho : o.op = .store ty x y)
    (g off : Nat) (hx : a.eval x = .pointer (some ⟨g, off, none⟩)) (xs : List Value) (hy : a.eval y = .agg xs.toArray) (hi : (P.info? ty).map (·.size) = some xs.length) (h1 : ∀ u ∈ xs, u.oneCell' = true)
    (t : TypeId) (cs : Array Value) (hb : Blk w g t cs) (hoff : off + xs.length ≤ cs.size)
    (hk : ∀ w', Blk w' g t (cs.toList.take off ++ xs ++ cs.toList.drop (off + xs.length)).toArray → Step (fun k => k = g) w w' → w'.heap.size = w.heap.size → wpList P ops Q rest (a.put o.dst undef) w') : wpList P ops Q (o :: rest) a w := by
  refine wpList_want hgd fun K hK => ?_
  have hst := run_storeCells_at P g off t xs 0 cs w hb (by omega) h1
  rw [Nat.add_zero] at hst
  obtain ⟨h2, h3⟩ := hb.setRow (cs.toList.take off ++ xs ++ cs.toList.drop (off + xs.length)).toArray
  have hk' := hK _ _ (hk _ h2 h3 (by simp))
  cases hq : P.info? ty with
  | none => simp [hq] at hi
  | some i =>
    have hs : i.size = xs.length := by simpa [hq] using hi
    have hv : (storeVar ty ⟨g, off, none⟩ (.agg xs.toArray)).run P w = .ok () (w.setRow g (cs.toList.take off ++ xs ++ cs.toList.drop (off + xs.length)).toArray) := by
      simp only [storeVar, Sem.run_bind, sizeOf, typeInfo, Value.cells]
      simp [hq, hs, hst]
    unfold Oper.wp execOp
    simp only [ho, hx, hy, Instr.storeAt, Instr.sureAddr, Sem.run_bind, Sem.run_pure, Result.andThen_ok, hv]
    exact hk'

/-- A whole variable stored over. -/
theorem wl_store_all {ops : Array Oper} {rest : List Oper} {o : Oper} {a : Act} {Q : Exit → Act → World → Prop} (hgd : Region.wanted o (yielded ops a.tmps) = true) (ty : TypeId) (x y : Operand) (ho : o.op = .store ty x y)
    (g : Nat) (hx : a.eval x = .pointer (some ⟨g, 0, none⟩)) (xs : List Value) (hy : a.eval y = .agg xs.toArray) (hi : (P.info? ty).map (·.size) = some xs.length) (h1 : ∀ u ∈ xs, u.oneCell' = true)
    (t : TypeId) (cs : Array Value) (hb : Blk w g t cs) (hsz : cs.size = xs.length)
    (hk : ∀ w', Blk w' g t xs.toArray → Step (fun k => k = g) w w' → w'.heap.size = w.heap.size → wpList P ops Q rest (a.put o.dst undef) w') : wpList P ops Q (o :: rest) a w := by
  refine wl_store hgd ty x y ho g 0 hx xs hy hi h1 t cs hb (by omega) fun w' hb' => hk w' ?_
  rw [List.take_zero, List.nil_append, List.drop_eq_nil_of_le (by simp; omega), List.append_nil] at hb'
  exact hb'
theorem arr_size (l : List UInt8) : (arr l).cells.size = l.length := by simp [arr, Value.cells, u8s]

theorem run_alloc_var {ty : TypeId} {z : Value} (hz : (P.info? ty).map (·.zero) = some (some z)) : (Instr.alloc ty true (.tuple #[])).run P w = .ok (.pointer (some ⟨w.heap.size, 0, none⟩)) (w.alloc (.cells z.cells ty)) := by
  cases hq : P.info? ty with
  | none => simp [hq] at hz
  | some i =>
    have hz' : i.zero = some z := by simpa [hq] using hz
    simp [Instr.alloc, zeroValue, typeInfo, hq, hz', newVar, newRow]

/-- A new variable of an array's or a struct's type. -/
theorem wl_alloc {ops : Array Oper} {rest : List Oper} {o : Oper} {a : Act} {Q : Exit → Act → World → Prop} (hgd : Region.wanted o (yielded ops a.tmps) = true) (ty : TypeId) (ho : o.op = .alloc ty)
    (z : Value) (hz : (P.info? ty).map (·.zero) = some (some z)) (hk : ∀ w', Blk w' w.heap.size ty z.cells → Step (fun _ => False) w w' → w'.heap.size = w.heap.size + 1 → wpList P ops Q rest (a.put o.dst (.pointer (some ⟨w.heap.size, 0, none⟩))) w') :
    wpList P ops Q (o :: rest) a w := by
  refine wpList_want hgd fun K hK => ?_
  have hk' := hK _ _ (hk _ (Blk.new w ty z.cells) ((Step.refl _ _).alloc _) (by simp))
  unfold Oper.wp execOp
  simp only [ho, Sem.run_bind, Sem.run_pure, Result.andThen_ok, run_alloc_var hz]
  exact hk'

/-- A value laid in a new variable. -/
theorem wl_box {ops : Array Oper} {rest : List Oper} {o : Oper} {a : Act} {Q : Exit → Act → World → Prop} (hgd : Region.wanted o (yielded ops a.tmps) = true) (ty : TypeId) (x : Operand) (ho : o.op = .box ty x) (v : Value) (hx : a.eval x = v)
    (hk : ∀ w', Blk w' w.heap.size ty v.cells → Step (fun _ => False) w w' → w'.heap.size = w.heap.size + 1 → wpList P ops Q rest (a.put o.dst (.pointer (some ⟨w.heap.size, 0, none⟩))) w') :
    wpList P ops Q (o :: rest) a w := by
  refine wpList_want hgd fun K hK => ?_
  have hk' := hK _ _ (hk _ (Blk.new w ty v.cells) ((Step.refl _ _).alloc _) (by simp))
  unfold Oper.wp execOp
  simp only [ho, hx, Instr.box, newVar, newRow, Sem.run_bind, Sem.run_pure, Result.andThen_ok, run_newObj]
  exact hk'

/-- The zero value of an array or a struct. -/
theorem wl_zero {ops : Array Oper} {rest : List Oper} {o : Oper} {a : Act} {Q : Exit → Act → World → Prop} (hgd : Region.wanted o (yielded ops a.tmps) = true) (ty : TypeId) (ho : o.op = .build ty #[])
    (z : Array Value) (hz : P.built ty [] = some z) (hk : wpList P ops Q rest (a.put o.dst (.agg z)) w) : wpList P ops Q (o :: rest) a w := by
  refine wpList_want hgd fun K hK => ?_
  have hr := run_build (P := P) w ty #[] z hz
  unfold Oper.wp execOp
  simp only [ho, List.map_toArray, List.map_nil, Sem.run_bind, Sem.run_pure, Result.andThen_ok, hr]
  exact hK _ _ hk

/-- The parts that 'return' reads: one variable whole, then plain slots. -/
theorem res_cell {fn : Func} {p : Tmp} {ty : TypeId} (h : fn.results = #[.cell p ty]) {tmps : Array Value} {g off : Nat} {v : Value} (hp : tmps.getD p undef = .pointer (some ⟨g, off, none⟩)) (hl : (loadVar ty ⟨g, off, none⟩).run P w = .ok v w) :
    (results fn tmps).run P w = .ok v w := by
  have hp' : tmps[p]?.getD undef = .pointer (some ⟨g, off, none⟩) := by simpa using hp
  simp [results, h, hp', asAddr, hl]
theorem res_cell_tmp {fn : Func} {p t : Tmp} {ty : TypeId} (h : fn.results = #[.cell p ty, .tmp t]) {tmps : Array Value} {g off : Nat} {v u : Value} (hp : tmps.getD p undef = .pointer (some ⟨g, off, none⟩)) (ht : tmps.getD t undef = u)
    (hl : (loadVar ty ⟨g, off, none⟩).run P w = .ok v w) : (results fn tmps).run P w = .ok (.tuple #[v, u]) w := by
  have hp' : tmps[p]?.getD undef = .pointer (some ⟨g, off, none⟩) := by simpa using hp
  have ht' : tmps[t]?.getD undef = u := by simpa using ht
  simp [results, h, hp', ht', asAddr, hl]
theorem res_cell_tmp2 {fn : Func} {p t s : Tmp} {ty : TypeId} (h : fn.results = #[.cell p ty, .tmp t, .tmp s]) {tmps : Array Value} {g off : Nat} {v u x : Value} (hp : tmps.getD p undef = .pointer (some ⟨g, off, none⟩)) (ht : tmps.getD t undef = u) (hs : tmps.getD s undef = x)
    (hl : (loadVar ty ⟨g, off, none⟩).run P w = .ok v w) : (results fn tmps).run P w = .ok (.tuple #[v, u, x]) w := by
  have hp' : tmps[p]?.getD undef = .pointer (some ⟨g, off, none⟩) := by simpa using hp
  have ht' : tmps[t]?.getD undef = u := by simpa using ht
  have hs' : tmps[s]?.getD undef = x := by simpa using hs
  simp [results, h, hp', ht', hs', asAddr, hl]

/-- The variable at block g whole, as bytes of an array. -/
theorem arr_load {ty e t : TypeId} {n g : Nat} {l : List UInt8} (hu : P.underlying ty = some (.array n e)) (hi : (P.info? ty).map (·.size) = some n) (hl : l.length = n) (h : Blk w g t (u8s l).toArray) :
    (loadVar ty ⟨g, 0, none⟩).run P w = .ok (arr l) w :=
  run_loadVar_agg hu rfl (by rw [hi]; simp [u8s, hl]) (by have := h.cells; simpa using this)

theorem run_eql_arr {t e : TypeId} {n : Nat} {i : TypeInfo} (ht : P.underlying t = some (.array n e)) (he : P.underlying e = some (.int .u8)) (hi : P.info? e = some i) (hs : i.size = 1) {xs ys : List UInt8} (hx : xs.length = n) (hy : ys.length = n) (W : World) :
    (binOp .eql t (arr xs) (arr ys)).run P W = .ok (.bool (xs == ys)) W :=
  run_eql_bytes W t e n ht he (fun w => by simp [sizeOf, typeInfo, hi, hs]) xs ys hx hy
theorem run_neq_arr {t e : TypeId} {n : Nat} {i : TypeInfo} (ht : P.underlying t = some (.array n e)) (he : P.underlying e = some (.int .u8)) (hi : P.info? e = some i) (hs : i.size = 1) {xs ys : List UInt8} (hx : xs.length = n) (hy : ys.length = n) (W : World) :
    (binOp .neq t (arr xs) (arr ys)).run P W = .ok (.bool (!(xs == ys))) W := by
  have h := run_equalIn_bytes (P := P) W 9998 t e n ht he (fun w => by simp [sizeOf, typeInfo, hi, hs]) xs ys hx hy
  have h2 := run_neq_struct (P := P) W t (xs.map Extern.Stop.cell).toArray (ys.map Extern.Stop.cell).toArray
  rw [h] at h2
  exact h2
/-- The same, as the walk spells it. -/
theorem run_eql_agg {t e : TypeId} {n : Nat} {i : TypeInfo} (ht : P.underlying t = some (.array n e)) (he : P.underlying e = some (.int .u8)) (hi : P.info? e = some i) (hs : i.size = 1) {xs ys : List UInt8} (hx : xs.length = n) (hy : ys.length = n) (W : World) :
    (binOp .eql t (.agg (u8s xs).toArray) (.agg (u8s ys).toArray)).run P W = .ok (.bool (xs == ys)) W := run_eql_arr ht he hi hs hx hy W
theorem run_neq_agg {t e : TypeId} {n : Nat} {i : TypeInfo} (ht : P.underlying t = some (.array n e)) (he : P.underlying e = some (.int .u8)) (hi : P.info? e = some i) (hs : i.size = 1) {xs ys : List UInt8} (hx : xs.length = n) (hy : ys.length = n) (W : World) :
    (binOp .neq t (.agg (u8s xs).toArray) (.agg (u8s ys).toArray)).run P W = .ok (.bool (!(xs == ys))) W := run_neq_arr ht he hi hs hx hy W
theorem run_guard_arr {t : TypeId} (hm : P.eqGuardType P.depth t = false) (op : BinOp) (x y : Operand) (xs ys : List UInt8) (W : World) : (eqGuard op t x y (arr xs) (arr ys)).run P W = .ok () W :=
  run_eqGuard_agg W op t x y _ _ hm
end

/-- The worlds that come of w by new blocks alone. -/
def Ext (w : World) : Type := { w' : World // Step (fun _ => False) w w' }
instance instExt (w : World) : Nonempty (Ext w) := ⟨⟨w, Step.refl _ _⟩⟩

section
variable {P : Program} {w : World}
/-- A region that draws its order, whose operations read old blocks and whose callees make new blocks alone: one walk. -/
theorem wp_region_ext {id : Nat} {Q : Exit → Act → World → Prop} {a : Act} {l : List Oper} (hm : P.follows .mixedOrders = true) (hB : Region.lexB .any l.toArray = true)
    (h : wpQuiet P l.toArray (fun w' => ∃ s : Ext w, w' = s.1) (fun a' => ∀ w', (∃ s : Ext w, w' = s.1) → Q .normal a' w') l a) : (Code.region id l.toArray true).wp P Q a w :=
  wp_region_quiet (C := fun w' => ∃ s : Ext w, w' = s.1) hm hB ⟨⟨_, (Step.refl _ _).drew⟩, rfl⟩ (by simpa using h)
/-- A callee that makes new blocks alone. -/
theorem ext_call {f : FuncId} {args : Array Value} {s : Ext w} {v : Value} {R : Ending → World → Prop} (h : Calls P f args s.1 R) (hR : ∀ e w', R e w' → e = .returned v ∧ Step (fun _ => False) s.1 w') :
    Calls P f args s.1 fun e w'' => e = .returned v ∧ ∃ s : Ext w, w'' = s.1 :=
  h.mono fun e w' hr => ⟨(hR e w' hr).1, ⟨w', s.2.tr (hR e w' hr).2⟩, rfl⟩
/-- A whole load in a region that draws; the class: worlds that keep the cells. -/
theorem wq_load {C : World → Prop} {ops : Array Oper} {rest : List Oper} {o : Oper} {a : Act} {Q : Act → Prop} (hw : Region.wanted o (yielded ops a.tmps) = true) (ty : TypeId) (x : Operand) (ho : o.op = .load ty x)
    (g off : Nat) (hx : a.eval x = .pointer (some ⟨g, off, none⟩)) (xs : List Value) (d : TypeDesc) (hu : P.underlying ty = some d) (hd : (match d with | .struct _ | .array _ _ => true | _ => false) = true) (hi : (P.info? ty).map (·.size) = some xs.length)
    (h : ∀ w', C w' → Cells w' g off xs) (hk : wpQuiet P ops C Q rest (a.put o.dst (.agg xs.toArray))) : wpQuiet P ops C Q (o :: rest) a := by
  refine BigFrame.wpQuiet_want hw fun K hK => ?_
  refine ⟨.agg xs.toArray, fun w' hw' => ?_, hK _ hk⟩
  unfold Oper.quietAt execOp
  simp only [ho, hx, Instr.loadAt, Instr.sureAddr, Sem.run_bind, Sem.run_pure, Result.andThen_ok, run_loadVar_agg hu hd hi (h w' hw')]
  exact ⟨rfl, rfl⟩
theorem cells_drew {g off : Nat} {xs : List Value} (h : Cells w g off xs) : ∀ w', (∃ n, w' = w.drewN n) → Cells w' g off xs := by
  rintro w' ⟨n, rfl⟩
  exact fun i u hu => by simpa using h i u hu
theorem cells_ext {g off : Nat} {xs : List Value} (h : Cells w g off xs) : ∀ w', (∃ s : Ext w, w' = s.1) → Cells w' g off xs := by
  rintro w' ⟨s, rfl⟩
  exact h.step s.2 fun h => h
theorem cell_ext {p : Addr} {v : Value} (h : w.cell? p = some v) (s : Ext w) : s.1.cell? p = some v := s.2.cell h fun h => h
end

/-- Element k of a slice whose elements are laid out by f. -/
theorem Sl.elem {α : Type} {w : World} {A : Option Addr} {n c sz : Nat} {l : List α} {f : α → List Value} (h : Sl w A n c sz (l.flatMap f)) (hf : ∀ x, (f x).length = sz) {k : Nat} (hk : k < l.length) (hsz : 0 < sz) :
    ∃ b off, A = some ⟨b, off, none⟩ ∧ Cells w b (off + k * sz) (f l[k]) := by
  have key : ∀ (l : List α) (k : Nat) (hk : k < l.length) (i : Nat) (u : Value), (f l[k])[i]? = some u → (l.flatMap f)[k * sz + i]? = some u := by
    intro l
    induction l with
    | nil => intro k hk; simp at hk
    | cons x l ih =>
      intro k hk i u hu
      rw [List.flatMap_cons]
      cases k with
      | zero =>
        have hi : i < (f x).length := (List.getElem?_eq_some_iff.1 hu).1
        rw [Nat.zero_mul, Nat.zero_add, List.getElem?_append_left hi]
        exact hu
      | succ k =>
        rw [List.getElem?_append_right (by rw [hf, Nat.succ_mul]; omega), hf, show (k + 1) * sz + i - sz = k * sz + i by rw [Nat.succ_mul]; omega]
        exact ih k (by simpa using hk) i u hu
  have hne : l.flatMap f ≠ [] := by
    intro e
    have := key l k hk 0 ((f l[k])[0]'(by rw [hf]; exact hsz)) (List.getElem?_eq_getElem _)
    rw [e] at this
    cases this
  obtain ⟨b, off, e, _, hc⟩ := h.rd hne
  exact ⟨b, off, e, fun i u hu => by rw [Nat.add_assoc]; exact hc _ u (key l k hk i u hu)⟩
theorem length_flatMap {α : Type} {sz : Nat} {f : α → List Value} (hf : ∀ x, (f x).length = sz) : ∀ l : List α, (l.flatMap f).length = l.length * sz
  | [] => by simp
  | x :: l => by rw [List.flatMap_cons, List.length_append, hf, length_flatMap hf l, List.length_cons, Nat.succ_mul]; omega
theorem Sl.n_flat {α : Type} {w : World} {A : Option Addr} {n c sz : Nat} {l : List α} {f : α → List Value} (h : Sl w A n c sz (l.flatMap f)) (hf : ∀ x, (f x).length = sz) (hsz : 0 < sz) : n = l.length := by
  have := h.len
  rw [length_flatMap hf] at this
  exact (Nat.eq_of_mul_eq_mul_right hsz this).symm

/-- An id, a key: 32 bytes. -/
abbrev Id := { l : List UInt8 // l.length = 32 }
def idc (x : Id) : List Value := u8s x.1
theorem idc_length (x : Id) : (idc x).length = 32 := by rw [idc, u8s_length, x.2]
theorem idc_one (x : Id) : ∀ u ∈ idc x, u.oneCell' = true := u8s_one x.1
def idz : Id := ⟨zeros 32, zeros_length 32⟩

theorem run_eql_id {P : Program} {t e : TypeId} {i : TypeInfo} (ht : P.underlying t = some (.array 32 e)) (he : P.underlying e = some (.int .u8)) (hi : P.info? e = some i) (hs : i.size = 1) (x y : Id) (W : World) :
    (binOp .eql t (.agg (idc x).toArray) (.agg (idc y).toArray)).run P W = .ok (.bool (decide (x = y))) W := by
  rw [show decide (x = y) = (x.1 == y.1) by rw [Bool.eq_iff_iff]; simp [Subtype.ext_iff]]
  exact run_eql_arr ht he hi hs x.2 y.2 W
theorem run_neq_id {P : Program} {t e : TypeId} {i : TypeInfo} (ht : P.underlying t = some (.array 32 e)) (he : P.underlying e = some (.int .u8)) (hi : P.info? e = some i) (hs : i.size = 1) (x y : Id) (W : World) :
    (binOp .neq t (.agg (idc x).toArray) (.agg (idc y).toArray)).run P W = .ok (.bool (!decide (x = y))) W := by
  rw [show decide (x = y) = (x.1 == y.1) by rw [Bool.eq_iff_iff]; simp [Subtype.ext_iff]]
  exact run_neq_arr ht he hi hs x.2 y.2 W
end Go.Proofs.Ytionnlckjjojnaa
namespace Go.Proofs.Ytionnlckjjojnaa
open Go.RowKit

theorem isCells_of_cell {w : World} {p : Addr} {v : Value} {o : Obj} (h : w.cell? p = some v) (ho : w.heap[p.block]? = some o) : o.isCells = true := by
  obtain ⟨o', ho', hc'⟩ := cells_of_cell h
  rw [ho] at ho'
  cases ho'
  exact hc'
theorem Blk.isCells {w : World} {g : Nat} {t : TypeId} {cs : Array Value} (hb : Blk w g t cs) {o : Obj} (ho : w.heap[g]? = some o) : o.isCells = true := by
  rw [show w.heap[g]? = _ from hb] at ho
  cases ho
  rfl
/-- The cells' blocks of K lie as they lay. -/
structure Keeps (K : Nat → Prop) (w w' : World) : Prop where
  size : w.heap.size ≤ w'.heap.size
  block : ∀ k o, K k → w.heap[k]? = some o → o.isCells = true → w'.heap[k]? = some o
section
variable {K : Nat → Prop} {w w' w'' : World}
theorem Keeps.refl (K : Nat → Prop) (w : World) : Keeps K w w := ⟨Nat.le_refl _, fun _ _ _ h _ => h⟩
theorem Keeps.trans (h : Keeps K w w') (k : Keeps K w' w'') : Keeps K w w'' :=
  ⟨Nat.le_trans h.size k.size, fun i o hi hl hc => k.block i o hi (h.block i o hi hl hc) hc⟩
theorem Step.keeps {S : Nat → Prop} (h : Step S w w') (hd : ∀ k, K k → ¬ S k) : Keeps K w w' := ⟨h.size, fun k _ hk hl _ => (h.block k (Array.getElem?_eq_some_iff.1 hl).1 (hd k hk)).trans hl⟩
theorem Keeps.cell (h : Keeps K w w') {p : Addr} {v : Value} (hc : w.cell? p = some v) (hk : K p.block) : w'.cell? p = some v := by
  obtain ⟨o, ho, hco⟩ := cells_of_cell hc
  exact (World.cell?_of_block ((h.block p.block o hk ho hco).trans ho.symm)).trans hc
theorem Keeps.blk {g : Nat} {t : TypeId} {cs : Array Value} (h : Keeps K w w') (hb : Blk w g t cs) (hk : K g) : Blk w' g t cs := h.block g _ hk hb rfl
theorem Keeps.sl {A : Option Addr} {n c sz : Nat} {xs : List Value} (h : Keeps K w w') (hs : Sl w A n c sz xs) (hk : ∀ k, Ft A n k → K k) : Sl w' A n c sz xs :=
  ⟨hs.len, hs.le, hs.cap, fun hx => by
    obtain ⟨b, off, e, hb, hc⟩ := hs.rd hx
    exact ⟨b, off, e, Nat.lt_of_lt_of_le hb h.size, fun i u hu => h.cell (hc i u hu) (hk b ⟨hs.npos hx, _, e, rfl⟩)⟩⟩
end

/-- From w to w' nothing has turned but blocks that are no cells and lie at or beyond B, and what is new. -/
def Loose (B : Nat) (w w' : World) : Prop := Step (fun k => B ≤ k ∧ ∃ o : Obj, w.heap[k]? = some o ∧ o.isCells = false) w w'
section
variable {B : Nat} {w w' : World}
theorem Loose.of_grownBy {row : Option Nat} (hg : w.grownBy w' row) (hr : ∀ r, row = some r → B ≤ r ∧ ∃ o : Obj, w.heap[r]? = some o ∧ o.isCells = false) : Loose B w w' :=
  ⟨hg.os, hg.tape, hg.output, hg.size, fun k hk hs => hg.block k hk (fun e => hs (hr k e.symm))⟩
theorem ownFrom_of {β : Type} {I : β → World → Prop} (h : ∀ s w w', I s w → Loose B w w' → I s w') : OwnFrom B I := fun s w w' _ hs hg hr => h s w w' hs (Loose.of_grownBy hg hr)
theorem cell_not {p : Addr} {v : Value} (h : w.cell? p = some v) : ¬ ∃ o : Obj, w.heap[p.block]? = some o ∧ o.isCells = false := by
  rintro ⟨o, ho, hc⟩
  obtain ⟨o', ho', hc'⟩ := cells_of_cell h
  rw [ho] at ho'
  cases ho'
  rw [hc] at hc'
  cases hc'
theorem Loose.cell {p : Addr} {v : Value} (h : Loose B w w') (hc : w.cell? p = some v) : w'.cell? p = some v := Step.cell h hc fun e => cell_not hc e.2
theorem Loose.blk {g : Nat} {t : TypeId} {cs : Array Value} (h : Loose B w w') (hb : Blk w g t cs) : Blk w' g t cs := hb.step h fun ⟨_, o, ho, hc⟩ => by
  rw [show w.heap[g]? = _ from hb] at ho
  cases ho
  cases hc
theorem Loose.sl {A : Option Addr} {n c sz : Nat} {xs : List Value} (h : Loose B w w') (hs : Sl w A n c sz xs) : Sl w' A n c sz xs :=
  ⟨hs.len, hs.le, hs.cap, fun hx => by
    obtain ⟨b, off, e, hb, hc⟩ := hs.rd hx
    exact ⟨b, off, e, Nat.lt_of_lt_of_le hb h.size, fun i u hu => h.cell (hc i u hu)⟩⟩
theorem Loose.own {e : TypeId} {A : Option Addr} {n c sz : Nat} {xs : List Value} (h : Loose B w w') (ho : Own w e sz A n c xs) : Own w' e sz A n c xs := by
  refine ⟨ho.1, ?_⟩
  rcases ho.form with ⟨rfl, rfl, rfl, rfl⟩ | ⟨g, cur, rfl, hg, h1, h2, h3, h4⟩
  · exact .inl ⟨rfl, rfl⟩
  · exact .inr ⟨g, c, cur, rfl, Nat.zero_le _, h.blk hg, h1, h2, h3, h4⟩
theorem Loose.step {S : Nat → Prop} {w0 : World} (h : Loose B w w') (hs : Step S w0 w) (hB : w0.heap.size ≤ B) : Step S w0 w' := hs.trans h fun i hi hk => absurd hk.1 (by omega)
theorem Step.keepsFrom {S : Nat → Prop} (h : Step S w w') (hS : ∀ k (o : Obj), S k → w.heap[k]? = some o → o.isCells = true) : KeepsFrom B w w' :=
  ⟨h.size, fun k o _ hk ho => (h.block k (Array.getElem?_eq_some_iff.1 hk).1 (fun hs => by rw [hS k o hs hk] at ho; cases ho)).trans hk⟩
theorem Own.isCells {e : TypeId} {A : Option Addr} {n c sz : Nat} {xs : List Value} (h : Own w e sz A n c xs) {k : Nat} (hk : At A k) {o : Obj} (ho : w.heap[k]? = some o) : o.isCells = true := by
  obtain ⟨a, rfl, rfl⟩ := hk
  rcases h.form with ⟨h', _⟩ | ⟨g, cur, h', hg, _⟩
  · cases h'
  · injection h' with h'; subst h'; exact hg.isCells ho
/-- The block for the rounds' deferred calls is turned at the return. -/
theorem loose_put {D : Nat} {o : Obj} (o' : Obj) (hB : B ≤ D) (hD : w.heap[D]? = some o) (hc : o.isCells = false) : Loose B w (w.putObj D o') :=
  Loose.of_grownBy (grownBy_putObj' w D o') fun r e => by cases e; exact ⟨hB, o, hD, hc⟩
end

/-- An iterator's contract at the wide fence: it tells just xs, each x as 'encs x', while the loop's body keeps the blocks of K. -/
def Tells {α : Type} (P : Program) (g : Nat) (lb : Array Value) (encs : α → Array Value) (K : Nat → Prop) (xs : List α) (w : World) : Prop :=
  ∀ n, SeqStopsK Fence.wide n P g lb encs (Keeps K) (· = xs) (· <+: xs) xs.length w

/-- A range over a function that has a contract, in a function's own body. -/
theorem wp_range {P : Program} {α : Type} {g : Operand} {ps : Array Tmp} {assign body : Code} {Q : Exit → Act → World → Prop} {a : Act} {w : World} {gf : Nat} {lb : Array Value} (hg : a.eval g = .func (.func gf) #[] lb)
    (eg : ∀ args w, (callFunc gf args).run P w = .ok (.enter gf args) w) {encs : α → Array Value} {K : Nat → Prop} {xs : List α} (hseq : Tells P gf lb encs K xs w) (hps : ∀ x, (encs x).size = ps.size)
    (I : List α → World → Prop) (Ix : Code → List α → World → Prop) (hI : ∀ s w1 w2, I s w1 → Loose w.heap.size w1 w2 → I s w2) (hIx : ∀ c s w1 w2, Ix c s w1 → Loose w.heap.size w1 w2 → Ix c s w2) (h0 : I [] w) (a₁ : α → Act)
    (hassign : ∀ (l : Nat) (x : α) (W : World) (K : Act → World → Prop), K (a₁ x) W →
      assign.wpIn (Fence.wide.inRound l) 1 P (Exit.then K (fun _ _ _ => False)) { tmps := (ps.zip (encs x)).foldl (fun t (p, v) => t.setIfInBounds p v) a.tmps, defers := [] } W)
    (hbody : ∀ (l : Nat) (pre : List α) (x : α) (W : World), I pre W → pre.length < xs.length → body.wpIn (Fence.wide.inRound l) 1 P (ownPostG w.heap.size (Keeps K) I Ix (pre ++ [x]) W) (a₁ x) W)
    (hdone : ∀ (D : Nat) (W : World), w.heap.size ≤ D → I xs W → W.heap[D]? = some (.deferred (some [])) → Q .normal { a with defers := { target := .collected D, args := #[] } :: a.defers } W)
    (hstop : ∀ (D : Nat) (c : Code) (pre : List α) (W : World), w.heap.size ≤ D → pre <+: xs → Ix c pre W → W.heap[D]? = some (.deferred (some [])) → c.wp P Q { a with defers := { target := .collected D, args := #[] } :: a.defers } W) :
    (Code.rangeFunc g ps assign body).wp P Q a w :=
  (wpIn_wide (n := 3)).1 (wpIn_rangeFunc_ownG rfl (by omega) hg trivial eg (hseq 2) (fun h k => h.trans k)
    (fun W l o o' hl ho hc _ => ⟨by simp, fun k x _ hx hxc => (World.putObj_heap_other (fun e => by subst e; rw [ho] at hx; cases hx; rw [hc] at hxc; cases hxc)).trans hx⟩)
    (Below.refl _ _) hps I Ix (ownFrom_of hI) (fun c => ownFrom_of (hIx c)) h0 a₁ hassign hbody (fun D ys W hD e hi => by subst e; exact hdone D W hD hi) fun D c pre W hD hp hi hk => wpIn_wide.2 (hstop D c pre W hD hp hi hk))

/-- The same, where the round's slots are named: 'ups x' says what each of them holds. -/
theorem wp_range_at {P : Program} {α : Type} {g : Operand} {ps : Array Tmp} {assign body : Code} {Q : Exit → Act → World → Prop} {a : Act} {w : World} {gf : Nat} {lb : Array Value} (hg : a.eval g = .func (.func gf) #[] lb)
    (eg : ∀ args w, (callFunc gf args).run P w = .ok (.enter gf args) w) {encs : α → Array Value} {K : Nat → Prop} {xs : List α} (hseq : Tells P gf lb encs K xs w) (hps : ∀ x, (encs x).size = ps.size)
    (ups : α → List (Nat × Value))
    (I : List α → World → Prop) (Ix : Code → List α → World → Prop) (hI : ∀ s w1 w2, I s w1 → Loose w.heap.size w1 w2 → I s w2) (hIx : ∀ c s w1 w2, Ix c s w1 → Loose w.heap.size w1 w2 → Ix c s w2) (h0 : I [] w)
    (hassign : ∀ (l : Nat) (x : α) (W : World) (K : Act → World → Prop), K { tmps := (ups x).foldl (fun t p => t.setIfInBounds p.1 p.2) a.tmps, defers := [] } W →
      assign.wpIn (Fence.wide.inRound l) 1 P (Exit.then K (fun _ _ _ => False)) { tmps := (ps.zip (encs x)).foldl (fun t (p, v) => t.setIfInBounds p v) a.tmps, defers := [] } W)
    (hbody : ∀ (l : Nat) (pre : List α) (x : α) (W : World), I pre W → pre.length < xs.length → body.wpIn (Fence.wide.inRound l) 1 P (ownPostG w.heap.size (Keeps K) I Ix (pre ++ [x]) W) { tmps := (ups x).foldl (fun t p => t.setIfInBounds p.1 p.2) a.tmps, defers := [] } W)
    (hdone : ∀ (D : Nat) (W : World), w.heap.size ≤ D → I xs W → W.heap[D]? = some (.deferred (some [])) → Q .normal { a with defers := { target := .collected D, args := #[] } :: a.defers } W)
    (hstop : ∀ (D : Nat) (c : Code) (pre : List α) (W : World), w.heap.size ≤ D → pre <+: xs → Ix c pre W → W.heap[D]? = some (.deferred (some [])) → c.wp P Q { a with defers := { target := .collected D, args := #[] } :: a.defers } W) :
    (Code.rangeFunc g ps assign body).wp P Q a w :=
  wp_range hg eg hseq hps I Ix hI hIx h0 (fun x => { tmps := (ups x).foldl (fun t p => t.setIfInBounds p.1 p.2) a.tmps, defers := [] }) hassign hbody hdone hstop

theorem zip1 (p : Tmp) (u : Value) (t : Array Value) : (#[p].zip #[u]).foldl (fun t (p, v) => t.setIfInBounds p v) t = t.setIfInBounds p u := by simp
theorem zip2 (p q : Tmp) (u v : Value) (t : Array Value) : (#[p, q].zip #[u, v]).foldl (fun t (p, v) => t.setIfInBounds p v) t = (t.setIfInBounds p u).setIfInBounds q v := by simp
/-- The same, where the assignment lays blocks: 'Ax x a' W' says what it leaves. -/
theorem wp_range_ax {P : Program} {α : Type} {g : Operand} {ps : Array Tmp} {assign body : Code} {Q : Exit → Act → World → Prop} {a : Act} {w : World} {gf : Nat} {lb : Array Value} (hg : a.eval g = .func (.func gf) #[] lb)
    (eg : ∀ args w, (callFunc gf args).run P w = .ok (.enter gf args) w) {encs : α → Array Value} {K : Nat → Prop} {xs : List α} (hseq : Tells P gf lb encs K xs w) (hps : ∀ x, (encs x).size = ps.size)
    (I : List α → World → Prop) (Ix : Code → List α → World → Prop) (hI : ∀ s w1 w2, I s w1 → Loose w.heap.size w1 w2 → I s w2) (hIx : ∀ c s w1 w2, Ix c s w1 → Loose w.heap.size w1 w2 → Ix c s w2) (h0 : I [] w)
    (Ax : Array Value → α → Act → World → Prop) (hAx : ∀ x a' w1 w2, Ax a.tmps x a' w1 → Loose w.heap.size w1 w2 → Ax a.tmps x a' w2)
    (hassign : ∀ (l : Nat) (pre : List α) (x : α) (W : World) (M : Act → World → Prop), I pre W → (∀ a' W', KeepsFrom w.heap.size W W' → Keeps K W W' → I pre W' → Ax a.tmps x a' W' → M a' W') →
      assign.wpIn (Fence.wide.inRound l) 1 P (Exit.then M (fun _ _ _ => False)) { tmps := (ps.zip (encs x)).foldl (fun t (p, v) => t.setIfInBounds p v) a.tmps, defers := [] } W)
    (hbody : ∀ (l : Nat) (pre : List α) (x : α) (a' : Act) (W : World), I pre W → Ax a.tmps x a' W → pre.length < xs.length → body.wpIn (Fence.wide.inRound l) 1 P (ownPostG w.heap.size (Keeps K) I Ix (pre ++ [x]) W) a' W)
    (hdone : ∀ (D : Nat) (W : World), w.heap.size ≤ D → I xs W → W.heap[D]? = some (.deferred (some [])) → Q .normal { a with defers := { target := .collected D, args := #[] } :: a.defers } W)
    (hstop : ∀ (D : Nat) (c : Code) (pre : List α) (W : World), w.heap.size ≤ D → pre <+: xs → Ix c pre W → W.heap[D]? = some (.deferred (some [])) → c.wp P Q { a with defers := { target := .collected D, args := #[] } :: a.defers } W) :
    (Code.rangeFunc g ps assign body).wp P Q a w :=
  (wpIn_wide (n := 3)).1 (wpIn_rangeFunc_ownH rfl (by omega) hg trivial eg (hseq 2) (fun h k => h.trans k)
    (fun W l o o' hl ho hc _ => ⟨by simp, fun k x _ hx hxc => (World.putObj_heap_other (fun e => by subst e; rw [ho] at hx; cases hx; rw [hc] at hxc; cases hxc)).trans hx⟩)
    (Below.refl _ _) hps I Ix (ownFrom_of hI) (fun c => ownFrom_of (hIx c)) h0 (Ax a.tmps) (fun x a' => ownFrom_of (fun _ w1 w2 => hAx x a' w1 w2)) hassign (fun l pre x a' W _ _ hi hax hlt => hbody l pre x a' W hi hax hlt)
    (fun D ys W hD e hi => by subst e; exact hdone D W hD hi) fun D c pre W hD hp hi hk => wpIn_wide.2 (hstop D c pre W hD hp hi hk))

theorem Step.keepsOthers {w w' : World} (h : Step (fun _ => False) w w') : KeepsOthers w w' :=
  ⟨h.size, fun k _ hk _ => (h.block k (Array.getElem?_eq_some_iff.1 hk).1 (fun e => e)).trans hk⟩
end Go.Proofs.Ytionnlckjjojnaa
namespace Go.Proofs.Ytionnlckjjojnaa
open Go.RowKit

theorem str_append (l m : List UInt8) : str l ++ str m = str (l ++ m) := by
  apply ByteArray.ext
  simp [str, ByteArray.data_append]
theorem sl_one (W : World) (t : TypeId) (v : Value) : Sl (W.alloc (.cells #[v] t)) (some ⟨W.heap.size, 0, none⟩) 1 1 1 [v] :=
  ⟨rfl, Nat.le_refl _, by simp [maxLen], fun _ => ⟨_, 0, rfl, by simp, by
    intro i u hu
    rw [Nat.zero_add]
    exact ((Blk.new W _ _).cell i).trans (by simpa using hu)⟩⟩
theorem own_one (W : World) (t : TypeId) (v : Value) : Own (W.alloc (.cells #[v] t)) t 1 (some ⟨W.heap.size, 0, none⟩) 1 1 [v] :=
  ⟨rfl, .inr ⟨_, 1, #[v], rfl, Nat.zero_le _, Blk.new W t #[v], Nat.le_refl _, by simp [maxLen], rfl, rfl⟩⟩
theorem Own.set_ {w : World} {e : TypeId} {b off n c i : Nat} {xs : List Value} (h : Own w e 1 (some ⟨b, off, none⟩) n c xs) (_ : i < n) (u : Value) : Own (w.setCell ⟨b, off + i, none⟩ u) e 1 (some ⟨b, off, none⟩) n c (xs.set i u) := by
  refine ⟨by rw [List.length_set]; exact h.1, ?_⟩
  rcases h.form with ⟨h', _⟩ | ⟨g, cur, h', hg, h1, h2, h3, h4⟩
  · cases h'
  · injection h' with h'
    injection h' with e1 e2
    subst e1 e2
    rw [Nat.zero_add]
    refine .inr ⟨b, c, cur.setIfInBounds i u, rfl, Nat.zero_le _, hg.set_ i u, h1, h2, by rw [Array.size_setIfInBounds]; exact h3, ?_⟩
    rw [Array.toList_setIfInBounds, ← h4, List.take_set]
theorem Blk.sl_ {w : World} {g : Nat} {t : TypeId} {xs : List Value} (h : Blk w g t xs.toArray) {n : Nat} (hn : xs.length = n) (hm : n ≤ maxLen) : Sl w (some ⟨g, 0, none⟩) n n 1 xs :=
  ⟨by omega, Nat.le_refl _, hm, fun _ => ⟨g, 0, rfl, h.lt, fun i u hu => by rw [Nat.zero_add, h.cell]; simpa using hu⟩⟩
theorem ret_bool {v : Value} {b b' : Bool} (hv : v = .bool b) (h : b = b') : Ending.returned v = Ending.returned (.bool b') := by rw [hv, h]
theorem sign_test {l : List UInt8} {k : Nat} (hk : k < l.length) (c : UInt8) {n : Int} (hn : (c.toNat : Int) = n) : ((((str l)[k]'(by rw [str_size]; exact hk)).toNat : Int) == n) = (l[k] == c) := by
  rw [str_get, Bool.eq_iff_iff, beq_iff_eq, beq_iff_eq, ← UInt8.toNat_inj]
  omega
theorem sign_no {l : List UInt8} {k : Nat} (hk : k < l.length) {c : UInt8} (h : l[k] ≠ c) {n : Int} (hn : (c.toNat : Int) = n) : ((((str l)[k]'(by rw [str_size]; exact hk)).toNat : Int) == n) = false := by
  rw [sign_test hk c hn]
  simpa using h

section
variable {P : Program} {w : World}
theorem run_string_bytes (src dst e : TypeId) (l : List UInt8) (hs : P.underlying src = some .string) (hd : P.underlying dst = some (.slice e)) (he : P.underlying e = some (.int .u8)) (hl : l.length ≤ maxLen) :
    ∃ c' w', (convert src dst (.string (str l))).run P w = .ok (.slice (some ⟨w.heap.size, 0, none⟩) l.length c') w' ∧ Sl w' (some ⟨w.heap.size, 0, none⟩) l.length c' 1 (u8s l) ∧ Step (fun _ => False) w w' ∧ w'.heap.size = w.heap.size + 1 := by
  have hsz := str_size l
  refine ⟨_, _, (run_bytes_of_string w src dst e (str l) hs hd he).trans (by rw [hsz]), ⟨by simp [u8s], by have := grownCap_ge w l.length 0 e; omega, by have := grownCap_le_maxLen w l.length 0 e (by omega); omega, fun _ => ⟨_, 0, rfl, by simp, fun i u hu => ?_⟩⟩, ((Step.refl _ _).drew).alloc _, by simp⟩
  rw [Nat.zero_add]
  refine (World.cell?_alloc_mark _ _ _ _ i).trans ?_
  have hi : i < l.length := by have := (List.getElem?_eq_some_iff.1 hu).1; simpa [u8s] using this
  have hda : (str l).data = l.toArray := rfl
  rw [bytesRow_at _ _ _ (by rw [hda]; simpa using hi), ← hu, u8s_get l i hi]
  simp only [hda, List.getElem_toArray]
  rfl

/-- []byte(s). -/
theorem wl_bytes {ops : Array Oper} {rest : List Oper} {o : Oper} {a : Act} {Q : Exit → Act → World → Prop} (hgd : Region.wanted o (yielded ops a.tmps) = true) (src dst e : TypeId) (x : Operand) (ho : o.op = .convert src dst x)
    (l : List UInt8) (hx : a.eval x = .string (str l)) (hs : P.underlying src = some .string) (hd : P.underlying dst = some (.slice e)) (he : P.underlying e = some (.int .u8)) (hl : l.length ≤ maxLen)
    (hk : ∀ c' w', Sl w' (some ⟨w.heap.size, 0, none⟩) l.length c' 1 (u8s l) → Step (fun _ => False) w w' → w'.heap.size = w.heap.size + 1 → wpList P ops Q rest (a.put o.dst (.slice (some ⟨w.heap.size, 0, none⟩) l.length c')) w') :
    wpList P ops Q (o :: rest) a w := by
  refine wpList_want hgd fun K hK => ?_
  obtain ⟨c', w', hrun, h1, h2, h3⟩ := run_string_bytes (P := P) (w := w) src dst e l hs hd he hl
  unfold Oper.wp execOp
  simp only [ho, hx, Sem.run_bind, Sem.run_pure, Result.andThen_ok, hrun]
  exact hK _ _ (hk c' w' h1 h2 h3)

theorem strCells_str (l : List UInt8) : Lib.strCells (str l) = u8s l := rfl
theorem run_append_str (B0 : Nat) (t u ty e : TypeId) (i : TypeInfo) (ht : P.underlying t = some (.slice e)) (hu : P.underlying u = some .string) (hi : P.info? e = some i) (hz : i.zero = some (.int .u8 0)) (hsize : i.size = 1) (hby : i.bytes = 1)
    (A : Option Addr) (n c : Nat) (xs : List Value) (hown : Own w e 1 A n c xs) (hA : ∀ k, At A k → B0 ≤ k) (hB0 : B0 ≤ w.heap.size) (l : List UInt8) (h63 : n + l.length ≤ maxLen) (hbytes : n + l.length ≤ 140737488355328) :
    ∃ A' c' w', (Builtin.append_ #[t, u] ty #[.slice A n c, .string (str l)]).run P w = .ok (.slice A' (n + l.length) c') w' ∧ Own w' e 1 A' (n + l.length) c' (xs ++ u8s l) ∧ Step (At A) w w' ∧ (∀ k, At A' k → B0 ≤ k) := by
  have hb : w.ownsRow B0 e 1 (.slice A n c) n xs := by
    refine ⟨hown.1, ?_⟩
    rcases hown.form with ⟨rfl, rfl, rfl, rfl⟩ | ⟨g, cur, rfl, hg, h1, h2, h3, h4⟩
    · exact .inl ⟨rfl, rfl⟩
    · exact .inr ⟨g, c, cur, rfl, hA g ⟨_, rfl, rfl⟩, hg, h1, h2, h3, h4⟩
  have hs := str_size l
  obtain ⟨v', w', hrun, h2, h3, _⟩ := Lib.run_append_own_string (P := P) w B0 t u ty e i ht hu hi hz hsize hby (.slice A n c) n xs hb (str l) (by omega) (by omega) hB0
  rw [hs, strCells_str] at h2
  have hst : Step (At A) w w' := ⟨h3.os, h3.tape, h3.output, h3.size, fun k hk hn => h3.block k hk (fun e => hn ((ownBlock_at n c).1 e.symm))⟩
  rcases h2.2 with ⟨rfl, hn⟩ | ⟨g, cap, cur, rfl, hbg, hg, h4⟩
  · refine ⟨none, 0, w', by rw [hrun, hn], ?_, hst, fun k hk => (at_nil hk).elim⟩
    exact ⟨h2.1, .inl ⟨by rw [hn], hn⟩⟩
  · exact ⟨_, cap, w', hrun, ⟨h2.1, .inr ⟨g, cap, cur, rfl, Nat.zero_le _, hg, h4⟩⟩, hst, fun k ⟨a, e1, e2⟩ => by cases e1; exact e2 ▸ hbg⟩

/-- append(b, s...). -/
theorem wl_append_str {ops : Array Oper} {rest : List Oper} {o : Oper} {a : Act} {Q : Exit → Act → World → Prop} (hgd : Region.wanted o (yielded ops a.tmps) = true) (s x : Operand) (t u : TypeId)
    (ho : o.op = .call { callee := .builtin .append, args := #[s, x], argTypes := #[t, u] }) (B0 : Nat)
    (e : TypeId) (i : TypeInfo) (ht : P.underlying t = some (.slice e)) (hu : P.underlying u = some .string) (hi : P.info? e = some i) (hz : i.zero = some (.int .u8 0)) (hsize : i.size = 1) (hby : i.bytes = 1)
    (A : Option Addr) (n c : Nat) (xs : List Value) (hs : a.eval s = .slice A n c) (hown : Own w e 1 A n c xs) (hA : ∀ k, At A k → B0 ≤ k) (hB0 : B0 ≤ w.heap.size) (l : List UInt8) (hx : a.eval x = .string (str l)) (h63 : n + l.length ≤ maxLen) (hbytes : n + l.length ≤ 140737488355328)
    (h : ∀ A' c' w', Own w' e 1 A' (n + l.length) c' (xs ++ u8s l) → Step (At A) w w' → (∀ k, At A' k → B0 ≤ k) → wpList P ops Q rest (a.put o.dst (.slice A' (n + l.length) c')) w') : wpList P ops Q (o :: rest) a w := by
  refine wpList_want hgd fun K hK => ?_
  obtain ⟨A', c', w', hrun, h2, h3, h4⟩ := run_append_str (P := P) (w := w) B0 t u o.type e i ht hu hi hz hsize hby A n c xs hown hA hB0 l h63 hbytes
  unfold Oper.wp execOp
  simp only [ho, resolve, invoke, builtin, Sem.run_bind, Sem.run_pure, Result.andThen_ok, List.map_toArray, List.map_cons, List.map_nil, hs, hx, hrun]
  exact hK _ _ (h A' c' w' h2 h3 h4)
end
end Go.Proofs.Ytionnlckjjojnaa
namespace Go.Proofs.Ytionnlckjjojnaa
open Go.RowKit

section
variable {F : Fence} {fn : Nat} {P : Program} (w : World)
/-- An operation that is carried out and makes a value. -/
theorem wi_op {ops : Array Oper} {rest : List Oper} {o : Oper} {a : Act} {w w' : World} {Q : Exit → Act → World → Prop} {v : Value} (hgd : Region.wanted o (yielded ops a.tmps) = true) (hnd : ∀ c, o.op ≠ .defer c) (hab : o.about P w a.eval = none)
    (hrun : (execOp a.eval o).run P w = .ok (.value v) w') (hk : wpListIn F fn P ops Q rest (a.put o.dst v) w') : wpListIn F fn P ops Q (o :: rest) a w := by
  refine wpListIn_step fun K hK => ?_
  simp only [hgd, if_true]
  unfold Oper.wpIn
  refine ⟨fun f hf => (by rw [hab] at hf; cases hf), ?_⟩
  rw [Oper.semAt_plain F a.eval o hnd, hrun, Oper.uponIn_value]
  exact hK _ _ hk

/-- An operation that is carried out and makes none. -/
theorem wi_skip {ops : Array Oper} {rest : List Oper} {o : Oper} {a : Act} {w w' : World} {Q : Exit → Act → World → Prop} (hgd : Region.wanted o (yielded ops a.tmps) = true) (hnd : ∀ c, o.op ≠ .defer c) (hab : o.about P w a.eval = none)
    (hrun : (execOp a.eval o).run P w = .ok .skip w') (hk : wpListIn F fn P ops Q rest (a.put o.dst undef) w') : wpListIn F fn P ops Q (o :: rest) a w := by
  refine wpListIn_step fun K hK => ?_
  simp only [hgd, if_true]
  unfold Oper.wpIn
  refine ⟨fun f hf => (by rw [hab] at hf; cases hf), ?_⟩
  rw [Oper.semAt_plain F a.eval o hnd, hrun, Oper.uponIn_skip]
  exact hK _ _ hk

theorem op_store {o : Oper} {ρ : Operand → Value} (ty : TypeId) (x y : Operand) (ho : o.op = .store ty x y)
    (g off : Nat) (hx : ρ x = .pointer (some ⟨g, off, none⟩)) (v : Value) (xs : List Value) (hy : ρ y = v) (hv : v.cells = xs.toArray) (hi : (P.info? ty).map (·.size) = some xs.length) (h1 : ∀ u ∈ xs, u.oneCell' = true)
    (t : TypeId) (cs : Array Value) (hb : Blk w g t cs) (hoff : off + xs.length ≤ cs.size) :
    ∃ w', (execOp ρ o).run P w = .ok .skip w' ∧ Blk w' g t (cs.toList.take off ++ xs ++ cs.toList.drop (off + xs.length)).toArray ∧ Step (fun k => k = g) w w' ∧ w'.heap.size = w.heap.size := by
  have hst := run_storeCells_at P g off t xs 0 cs w hb (by omega) h1
  rw [Nat.add_zero] at hst
  obtain ⟨h2, h3⟩ := hb.setRow (cs.toList.take off ++ xs ++ cs.toList.drop (off + xs.length)).toArray
  refine ⟨_, ?_, h2, h3, by simp⟩
  cases hq : P.info? ty with
  | none => simp [hq] at hi
  | some i =>
    have hs : i.size = xs.length := by simpa [hq] using hi
    have hvv : (storeVar ty ⟨g, off, none⟩ v).run P w = .ok () (w.setRow g (cs.toList.take off ++ xs ++ cs.toList.drop (off + xs.length)).toArray) := by
      simp only [storeVar, Sem.run_bind, sizeOf, typeInfo, hv]
      simp [hq, hs, hst]
    unfold execOp
    simp only [ho, hx, hy, Instr.storeAt, Instr.sureAddr, Sem.run_bind, Sem.run_pure, Result.andThen_ok, hvv]

/-- One cell of a variable stored, within a round. -/
theorem wi_put {ops : Array Oper} {rest : List Oper} {o : Oper} {a : Act} {Q : Exit → Act → World → Prop} (hgd : Region.wanted o (yielded ops a.tmps) = true) (ty : TypeId) (x y : Operand) (ho : o.op = .store ty x y)
    (g off : Nat) (hx : a.eval x = .pointer (some ⟨g, off, none⟩)) (v : Value) (hy : a.eval y = v) (hv : v.cells = #[v]) (h1 : v.oneCell' = true) (hi : (P.info? ty).map (·.size) = some 1)
    (t : TypeId) (cs : Array Value) (hb : Blk w g t cs) (hoff : off < cs.size)
    (hk : ∀ w', Blk w' g t (cs.setIfInBounds off v) → Step (fun k => k = g) w w' → wpListIn F fn P ops Q rest (a.put o.dst undef) w') : wpListIn F fn P ops Q (o :: rest) a w := by
  obtain ⟨w', hrun, hb', hs', _⟩ := op_store (P := P) w ty x y ho g off hx v [v] hy hv hi (by simpa using h1) t cs hb (by simp; omega)
  refine wi_skip hgd (by simp [ho]) (by simp [Oper.about, ho]) hrun (hk w' ?_ hs')
  have e : (cs.toList.take off ++ [v] ++ cs.toList.drop (off + [v].length)).toArray = cs.setIfInBounds off v := by
    apply Array.toList_inj.1
    rw [Array.toList_setIfInBounds, List.set_eq_take_append_cons_drop, if_pos (by simpa using hoff)]
    simp
  rwa [e] at hb'

theorem wl_skip {ops : Array Oper} {rest : List Oper} {o : Oper} {a : Act} {w w' : World} {Q : Exit → Act → World → Prop} (hgd : Region.wanted o (yielded ops a.tmps) = true)
    (hrun : (execOp a.eval o).run P w = .ok .skip w') (hk : wpList P ops Q rest (a.put o.dst undef) w') : wpList P ops Q (o :: rest) a w := by
  refine wpList_want hgd fun K hK => ?_
  unfold Oper.wp
  rw [hrun]
  exact hK _ _ hk
theorem wl_op {ops : Array Oper} {rest : List Oper} {o : Oper} {a : Act} {w w' : World} {Q : Exit → Act → World → Prop} {v : Value} (hgd : Region.wanted o (yielded ops a.tmps) = true)
    (hrun : (execOp a.eval o).run P w = .ok (.value v) w') (hk : wpList P ops Q rest (a.put o.dst v) w') : wpList P ops Q (o :: rest) a w := by
  refine wpList_want hgd fun K hK => ?_
  unfold Oper.wp
  rw [hrun]
  exact hK _ _ hk
/-- One cell of a variable stored. -/
theorem wl_put {ops : Array Oper} {rest : List Oper} {o : Oper} {a : Act} {Q : Exit → Act → World → Prop} (hgd : Region.wanted o (yielded ops a.tmps) = true) (ty : TypeId) (x y : Operand) (ho : o.op = .store ty x y)
    (g off : Nat) (hx : a.eval x = .pointer (some ⟨g, off, none⟩)) (v : Value) (hy : a.eval y = v) (hv : v.cells = #[v]) (h1 : v.oneCell' = true) (hi : (P.info? ty).map (·.size) = some 1)
    (t : TypeId) (cs : Array Value) (hb : Blk w g t cs) (hoff : off < cs.size)
    (hk : ∀ w', Blk w' g t (cs.setIfInBounds off v) → Step (fun k => k = g) w w' → wpList P ops Q rest (a.put o.dst undef) w') : wpList P ops Q (o :: rest) a w := by
  obtain ⟨w', hrun, hb', hs', _⟩ := op_store (P := P) w ty x y ho g off hx v [v] hy hv hi (by simpa using h1) t cs hb (by simp; omega)
  refine wl_skip hgd hrun (hk w' ?_ hs')
  have e : (cs.toList.take off ++ [v] ++ cs.toList.drop (off + [v].length)).toArray = cs.setIfInBounds off v := by
    apply Array.toList_inj.1
    rw [Array.toList_setIfInBounds, List.set_eq_take_append_cons_drop, if_pos (by simpa using hoff)]
    simp
  rwa [e] at hb'

/-- append, within a round. -/
theorem wi_append {ops : Array Oper} {rest : List Oper} {o : Oper} {a : Act} {Q : Exit → Act → World → Prop} (hgd : Region.wanted o (yielded ops a.tmps) = true) (s x : Operand) (t : TypeId)
    (ho : o.op = .call { callee := .builtin .append, args := #[s, x], argTypes := #[t, t] })
    (e : TypeId) (i : TypeInfo) (z : Value) (sz bytes : Nat) (ht : P.underlying t = some (.slice e)) (hi : P.info? e = some i) (hz : i.zero = some z)
    (hsize : i.size = sz) (hby : i.bytes = bytes) (hzs : z.cells.size = sz) (hsz : 0 < sz)
    (A : Option Addr) (n c : Nat) (xs : List Value) (hs : a.eval s = .slice A n c) (hown : Own w e sz A n c xs)
    (B : Option Addr) (m d : Nat) (ys : List Value) (hx : a.eval x = .slice B m d) (hr : Sl w B m d sz ys) (h1 : ∀ u ∈ ys, u.oneCell' = true)
    (h63 : n + m ≤ maxLen) (hbytes : (n + m) * bytes ≤ 140737488355328)
    (h : ∀ A' c' w', Own w' e sz A' (n + m) c' (xs ++ ys) → Step (At A) w w' → (∀ k, At A' k → At A k ∨ w.heap.size ≤ k) → wpListIn F fn P ops Q rest (a.put o.dst (.slice A' (n + m) c')) w') : wpListIn F fn P ops Q (o :: rest) a w := by
  obtain ⟨A', c', w', hrun, h2, h3, h4⟩ := run_append (P := P) w t o.type e i z sz bytes ht hi hz hsize hby hzs hsz A n c xs hown B m d ys hr h1 h63 hbytes
  refine wi_op hgd (by simp [ho]) (by simp [Oper.about, ho, resolve, Target.leads]) ?_ (h A' c' w' h2 h3 h4)
  unfold execOp
  simp only [ho, resolve, invoke, builtin, Sem.run_bind, Sem.run_pure, Result.andThen_ok, List.map_toArray, List.map_cons, List.map_nil, hs, hx, hrun]
end

section
variable {F : Fence} {fn : Nat} {P : Program} {w : World}
theorem wi_alloc {ops : Array Oper} {rest : List Oper} {o : Oper} {a : Act} {Q : Exit → Act → World → Prop} (hgd : Region.wanted o (yielded ops a.tmps) = true) (ty : TypeId) (ho : o.op = .alloc ty)
    (z : Value) (hz : (P.info? ty).map (·.zero) = some (some z)) (hk : ∀ w', Blk w' w.heap.size ty z.cells → Step (fun _ => False) w w' → wpListIn F fn P ops Q rest (a.put o.dst (.pointer (some ⟨w.heap.size, 0, none⟩))) w') :
    wpListIn F fn P ops Q (o :: rest) a w := by
  refine wi_op hgd (by simp [ho]) (by simp [Oper.about, ho]) ?_ (hk _ (Blk.new w ty z.cells) ((Step.refl _ _).alloc _))
  unfold execOp
  simp only [ho, Sem.run_bind, Sem.run_pure, Result.andThen_ok, run_alloc_var hz]
theorem wi_load {ops : Array Oper} {rest : List Oper} {o : Oper} {a : Act} {Q : Exit → Act → World → Prop} (hgd : Region.wanted o (yielded ops a.tmps) = true) (ty : TypeId) (x : Operand) (ho : o.op = .load ty x)
    (g off : Nat) (hx : a.eval x = .pointer (some ⟨g, off, none⟩)) (xs : List Value) (d : TypeDesc) (hu : P.underlying ty = some d) (hd : (match d with | .struct _ | .array _ _ => true | _ => false) = true) (hi : (P.info? ty).map (·.size) = some xs.length)
    (h : Cells w g off xs) (hk : wpListIn F fn P ops Q rest (a.put o.dst (.agg xs.toArray)) w) : wpListIn F fn P ops Q (o :: rest) a w := by
  refine wi_op hgd (by simp [ho]) (by simp [Oper.about, ho]) ?_ hk
  unfold execOp
  simp only [ho, hx, Instr.loadAt, Instr.sureAddr, Sem.run_bind, Sem.run_pure, Result.andThen_ok, run_loadVar_agg hu hd hi h]
theorem wi_store_all {ops : Array Oper} {rest : List Oper} {o : Oper} {a : Act} {Q : Exit → Act → World → Prop} (hgd : Region.wanted o (yielded ops a.tmps) = true) (ty : TypeId) (x y : Operand) (ho : o.op = .store ty x y)
    (g : Nat) (hx : a.eval x = .pointer (some ⟨g, 0, none⟩)) (xs : List Value) (hy : a.eval y = .agg xs.toArray) (hi : (P.info? ty).map (·.size) = some xs.length) (h1 : ∀ u ∈ xs, u.oneCell' = true)
    (t : TypeId) (cs : Array Value) (hb : Blk w g t cs) (hsz : cs.size = xs.length)
    (hk : ∀ w', Blk w' g t xs.toArray → Step (fun k => k = g) w w' → wpListIn F fn P ops Q rest (a.put o.dst undef) w') : wpListIn F fn P ops Q (o :: rest) a w := by
  obtain ⟨w', hrun, hb', hs', _⟩ := op_store (P := P) w ty x y ho g 0 hx (.agg xs.toArray) xs hy rfl hi h1 t cs hb (by omega)
  refine wi_skip hgd (by simp [ho]) (by simp [Oper.about, ho]) hrun (hk w' ?_ hs')
  rwa [List.take_zero, List.nil_append, List.drop_eq_nil_of_le (by simp; omega), List.append_nil] at hb'
end

section
variable {P : Program} {w : World}
theorem load_one {ty : TypeId} {d : TypeDesc} (hu : P.underlying ty = some d) (hd : d.isRow = false) {g off : Nat} {v : Value} (hc : w.cell? ⟨g, off, none⟩ = some v) :
    (loadVar ty ⟨g, off, none⟩).run P w = .ok v w := by
  have hagg : (isAgg ty).run P w = .ok false w := by
    unfold isAgg
    rw [Sem.run_bind, run_underlying hu w]
    cases d <;> simp_all [TypeDesc.isRow]
  simp [loadVar, Sem.run_bind, hagg, hc]
theorem res_cell2 {fn : Func} {p q : Tmp} {ty ty2 : TypeId} (h : fn.results = #[.cell p ty, .cell q ty2]) {tmps : Array Value} {g off g2 off2 : Nat} {v u : Value} (hp : tmps.getD p undef = .pointer (some ⟨g, off, none⟩)) (hq : tmps.getD q undef = .pointer (some ⟨g2, off2, none⟩))
    (hl : (loadVar ty ⟨g, off, none⟩).run P w = .ok v w) (hl2 : (loadVar ty2 ⟨g2, off2, none⟩).run P w = .ok u w) : (results fn tmps).run P w = .ok (.tuple #[v, u]) w := by
  have hp' : tmps[p]?.getD undef = .pointer (some ⟨g, off, none⟩) := by simpa using hp
  have hq' : tmps[q]?.getD undef = .pointer (some ⟨g2, off2, none⟩) := by simpa using hq
  simp [results, h, hp', hq', asAddr, hl, hl2]
theorem res_cell1 {fn : Func} {p : Tmp} {ty : TypeId} (h : fn.results = #[.cell p ty]) {tmps : Array Value} {g off : Nat} {v : Value} (hp : tmps.getD p undef = .pointer (some ⟨g, off, none⟩))
    (hl : (loadVar ty ⟨g, off, none⟩).run P w = .ok v w) : (results fn tmps).run P w = .ok v w := res_cell h hp hl

/-- A return, no range over a function having run. -/
theorem ret_plain {fn : Func} {n : Nat} {R : Ending → World → Prop} {a : Act} {v : Value} (hr : (results fn a.tmps).run P w = .ok v w) (hd : a.defers = []) (h : R (.returned v) w) : bodyPostM Fence.wide n P fn R .ret a w := by
  show LeavesInM Fence.wide n P fn a.tmps R a.defers .returning w
  rw [hd]
  exact ⟨v, hr, h⟩
/-- A return behind a range over a function. -/
theorem ret_mark {fn : Func} {n : Nat} {R : Ending → World → Prop} {a : Act} {v : Value} {D : Nat} (hK : w.heap[D]? = some (.deferred (some []))) (hd : a.defers = [{ target := .collected D, args := #[] }])
    (hr : (results fn a.tmps).run P (w.putObj D (.deferred none)) = .ok v (w.putObj D (.deferred none))) (h : R (.returned v) (w.putObj D (.deferred none))) : bodyPostM Fence.wide n P fn R .ret a w := by
  show LeavesInM Fence.wide n P fn a.tmps R a.defers .returning w
  rw [hd]
  exact ⟨by simp, .inl ⟨_, _, rfl, run_takeDeferred hK, ⟨v, hr, h⟩⟩⟩
end
end Go.Proofs.Ytionnlckjjojnaa
namespace Go.Proofs.Ytionnlckjjojnaa
open Go.RowKit

theorem op_alloc {P : Program} {w : World} {o : Oper} {ρ : Operand → Value} (ty : TypeId) (ho : o.op = .alloc ty) (z : Value) (hz : (P.info? ty).map (·.zero) = some (some z)) :
    (execOp ρ o).run P w = .ok (.value (.pointer (some ⟨w.heap.size, 0, none⟩))) (w.alloc (.cells z.cells ty)) := by
  unfold execOp
  simp only [ho, Sem.run_bind, Sem.run_pure, Result.andThen_ok, run_alloc_var hz]

/-- An operation of a region that draws, run. -/
theorem wpOp_skip {P : Program} {ops : Array Oper} {Q : Exit → Act → World → Prop} {i : Nat} {o : Oper} {K : Act → World → Prop} {a : Act} {w w' : World} (ho : ops[i]? = some o) (hgd : Region.wanted o (yielded ops a.tmps) = true)
    (hrun : (execOp a.eval o).run P w = .ok .skip w') (hk : K (a.put o.dst undef) w') : wpOp P ops Q i K a w := by
  unfold wpOp
  simp only [ho, hgd, if_true]
  refine .inl ?_
  unfold Oper.wp
  rw [hrun]
  exact hk
theorem wpOp_value {P : Program} {ops : Array Oper} {Q : Exit → Act → World → Prop} {i : Nat} {o : Oper} {K : Act → World → Prop} {a : Act} {w w' : World} {v : Value} (ho : ops[i]? = some o) (hgd : Region.wanted o (yielded ops a.tmps) = true)
    (hrun : (execOp a.eval o).run P w = .ok (.value v) w') (hk : K (a.put o.dst v) w') : wpOp P ops Q i K a w := by
  unfold wpOp
  simp only [ho, hgd, if_true]
  refine .inl ?_
  unfold Oper.wp
  rw [hrun]
  exact hk

theorem wpOp_store {P : Program} {ops : Array Oper} {Q : Exit → Act → World → Prop} {i : Nat} {o : Oper} {K : Act → World → Prop} {a : Act} {w : World} (ho : ops[i]? = some o) (hgd : Region.wanted o (yielded ops a.tmps) = true) (ty : TypeId) (x y : Operand) (hop : o.op = .store ty x y)
    (g : Nat) (hx : a.eval x = .pointer (some ⟨g, 0, none⟩)) (xs : List Value) (hy : a.eval y = .agg xs.toArray) (hi : (P.info? ty).map (·.size) = some xs.length) (h1 : ∀ u ∈ xs, u.oneCell' = true) (t : TypeId) (cs : Array Value) (hb : Blk w g t cs) (hsz : cs.size = xs.length)
    (hk : ∀ w', Blk w' g t xs.toArray → Step (fun k => k = g) w w' → K (a.put o.dst undef) w') : wpOp P ops Q i K a w := by
  obtain ⟨w', hrun, hb', hs', _⟩ := op_store (P := P) w ty x y hop g 0 hx (.agg xs.toArray) xs hy rfl hi h1 t cs hb (by omega)
  refine wpOp_skip ho hgd hrun (hk w' ?_ hs')
  rwa [List.take_zero, List.nil_append, List.drop_eq_nil_of_le (by simp; omega), List.append_nil] at hb'

theorem wp_mid {P : Program} {c : Code} {a : Act} {w : World} {Q : Exit → Act → World → Prop} (R : Act → Exit → Act → World → Prop) (h1 : c.wp P (R a) a w) (h2 : ∀ e a' w', R a e a' w' → Q e a' w') : c.wp P Q a w := Code.wp_mono h2 h1

theorem any_take (d : Tmp) {P : Program} {md : Region.Mode} {ops : Array Oper} {Q : Exit → Act → World → Prop} {S : World → Prop} {i : Nat} {oi : Oper} {v : Value} {fuel : Nat} {listed : Array Bool} {a : Act} {w : World} (hi : ops[i]? = some oi) (hd : oi.dst = some d)
    (hs : Region.noSelect ops = true) (hf : Region.free md ops listed i = true) (hr : (Region.ready md ops listed).contains i = true)
    (hQ : ∀ c a w, Q (.panic c) (a.put oi.dst v) w → Q (.panic c) a w) (hy : YieldsIf P ops S oi v a) (hS : S w)
    (h : wpAnyH P md ops Q S fuel (listed.setIfInBounds i true) (a.put (some d) v) w) : wpAnyH P md ops Q S (fuel + 1) listed a w :=
  wpAnyH_take hi hs hf hr hQ hy hS (by rw [hd]; exact h)

theorem wl_build {P : Program} {w : World} {ops : Array Oper} {rest : List Oper} {o : Oper} {a : Act} {Q : Exit → Act → World → Prop} (hgd : Region.wanted o (yielded ops a.tmps) = true) (t : TypeId) (parts : Array (Nat × Operand)) (ho : o.op = .build t parts)
    (cells : Array Value) (hb : P.built t (parts.map fun (i, x) => (i, a.eval x)).toList = some cells) (hk : wpList P ops Q rest (a.put o.dst (.agg cells)) w) : wpList P ops Q (o :: rest) a w := by
  refine wl_op hgd ?_ hk
  unfold execOp
  simp only [ho, Sem.run_bind, run_build w t _ cells hb, Result.andThen_ok, Sem.run_pure]
theorem wl_buildSlice {P : Program} {w : World} {ops : Array Oper} {rest : List Oper} {o : Oper} {a : Act} {Q : Exit → Act → World → Prop} (hgd : Region.wanted o (yielded ops a.tmps) = true) (t e : TypeId) (len : Nat) (parts : Array (Nat × Operand)) (ho : o.op = .buildSlice t len parts)
    (cells : Array Value) (hu : P.underlying t = some (.slice e))
    (hf : (P.info? e).bind (fun ie => ie.zero.bind fun z => if len * ie.size > 2 ^ 24 ∨ len * ie.size = 0 then none else Instr.fill (fun i => some (i * ie.size, ie.size)) ((Array.range (len * ie.size)).map (z.cells[· % z.cells.size]!)) (parts.map fun (i, x) => (i, a.eval x)).toList) = some cells)
    (hk : ∀ w', Blk w' w.heap.size e cells → Step (fun _ => False) w w' → wpList P ops Q rest (a.put o.dst (.slice (some ⟨w.heap.size, 0, none⟩) len len)) w') : wpList P ops Q (o :: rest) a w := by
  obtain ⟨ie, hie, hf⟩ := Option.bind_eq_some_iff.1 hf
  obtain ⟨z, hz, hf⟩ := Option.bind_eq_some_iff.1 hf
  split at hf
  · cases hf
  · rename_i hn
    refine wl_op hgd ?_ (hk _ (Blk.new w e cells) ((Step.refl _ _).alloc _))
    unfold execOp
    simp only [ho, Sem.run_bind, run_buildSlice w t e len _ cells ie z hu hie hz (fun h => hn (.inl h)) (fun h => hn (.inr h)) hf, Result.andThen_ok, Sem.run_pure]

/-- An element of an array by value. -/
theorem run_index_one {P : Program} {w : World} {t e : TypeId} {n : Nat} {d : TypeDesc} {j : Nat} {cs : Array Value} {v : Value} (ht : P.underlying t = some (.array n e)) (he : P.underlying e = some d) (hd : d.isRow = false) (hs : (P.info? e).map (·.size) = some 1)
    (hj : j < n) (hv : cs[j]? = some v) : (Instr.index t (.agg cs) (.int .i64 (j : Int))).run P w = .ok v w := by
  have hagg : (isAgg e).run P w = .ok false w := by
    unfold isAgg
    rw [Sem.run_bind, run_underlying he w]
    cases d <;> simp_all [TypeDesc.isRow]
  have hsz : (sizeOf e).run P w = .ok 1 w := by
    cases hq : P.info? e with
    | none => simp [hq] at hs
    | some i =>
      have : i.size = 1 := by simpa [hq] using hs
      simp [sizeOf, typeInfo, hq, this]
  have h0 : (0 : Int) ≤ (j : Int) ∧ (j : Int) < (n : Int) := ⟨by omega, by omega⟩
  unfold Instr.index
  simp [asIntOf, run_underlying ht, part, hagg, hsz, hv, h0]
  intro h
  omega

/-- copy into a block, of cells that stand in whatever block. -/
theorem wl_copy_blk {P : Program} {w : World} {ops : Array Oper} {rest : List Oper} {o : Oper} {a : Act} {Q : Exit → Act → World → Prop} (hgd : o.guard = none) (d s : Operand) (dT sT : TypeId)
    (ho : o.op = .call { callee := .builtin .copy, args := #[d, s], argTypes := #[dT, sT] }) (elem : TypeId) (hu : P.underlying dT = some (.slice elem)) (hsz : (P.info? elem).map (·.size) = some 1)
    (g off dLen dCap : Nat) (ad : Addr) (sLen sCap : Nat) (hd : a.eval d = .slice (some ⟨g, off, none⟩) dLen dCap) (hs : a.eval s = .slice (some ad) sLen sCap)
    (cur : Array Value) (t : TypeId) (hg : Blk w g t cur) (cs : List Value) (hn : cs.length = Nat.min sLen dLen)
    (hsrc : ∀ j v, cs[j]? = some v → w.cell? (ad.add j) = some v) (hfit : off + cs.length ≤ cur.size) (h1 : ∀ v ∈ cs, v.oneCell' = true)
    (h : ∀ w', Blk w' g t (cur.toList.take off ++ (cs ++ cur.toList.drop (off + cs.length))).toArray → Step (fun k => k = g) w w' → wpList P ops Q rest (a.put o.dst (goInt cs.length)) w') : wpList P ops Q (o :: rest) a w := by
  obtain ⟨h2, h3⟩ := hg.setRow (cur.toList.take off ++ (cs ++ cur.toList.drop (off + cs.length))).toArray
  exact wpList_copy_own hgd d s dT sT ho elem hu hsz g off dLen dCap ad sLen sCap hd hs cur t hg cs hn hsrc hfit h1 (h _ h2 h3)
theorem op_wp_value {P : Program} {o : Oper} {a : Act} {w w' : World} {v : Value} {K : Act → World → Prop} {Q : Exit → Act → World → Prop} (hrun : (execOp a.eval o).run P w = .ok (.value v) w') (hk : K (a.put o.dst v) w') : o.wp P a w K Q := by
  unfold Oper.wp
  rw [hrun]
  exact hk
end Go.Proofs.Ytionnlckjjojnaa
namespace Go.Proofs.Ytionnlckjjojnaa
open Go.RowKit
set_option linter.unusedVariables false

/-- A row that one may append to: nil, or the cells of a block from a place on. -/
def Tl (w : World) (e : TypeId) (sz : Nat) (A : Option Addr) (n c : Nat) (xs : List Value) : Prop :=
  xs.length = n * sz ∧ ((A = none ∧ n = 0 ∧ c = 0) ∨ ∃ g off cur, A = some ⟨g, off, none⟩ ∧ Blk w g e cur ∧ n ≤ c ∧ c ≤ maxLen ∧ off + c * sz ≤ cur.size ∧ (cur.toList.drop off).take (n * sz) = xs)
section
variable {w w' : World} {e : TypeId} {A : Option Addr} {n c sz : Nat} {xs : List Value}
theorem Own.tl (h : Own w e sz A n c xs) : Tl w e sz A n c xs := by
  refine ⟨h.1, ?_⟩
  rcases h.form with ⟨rfl, rfl, rfl, rfl⟩ | ⟨g, cur, rfl, hg, h1, h2, h3, h4⟩
  · exact .inl ⟨rfl, rfl, rfl⟩
  · exact .inr ⟨g, 0, cur, rfl, hg, h1, h2, by omega, by simpa using h4⟩
theorem Tl.nil (w : World) (e : TypeId) (sz : Nat) : Tl w e sz none 0 0 [] := ⟨by simp, .inl ⟨rfl, rfl, rfl⟩⟩
theorem Tl.lt (h : Tl w e sz A n c xs) {k : Nat} (hk : At A k) : k < w.heap.size := by
  obtain ⟨a, rfl, rfl⟩ := hk
  rcases h.2 with ⟨h', _⟩ | ⟨g, off, cur, h', hg, _⟩
  · cases h'
  · injection h' with h'; subst h'; exact hg.lt
theorem Tl.isCells (h : Tl w e sz A n c xs) {k : Nat} (hk : At A k) {o : Obj} (ho : w.heap[k]? = some o) : o.isCells = true := by
  obtain ⟨a, rfl, rfl⟩ := hk
  rcases h.2 with ⟨h', _⟩ | ⟨g, off, cur, h', hg, _⟩
  · cases h'
  · injection h' with h'
    subst h'
    rw [show w.heap[g]? = _ from hg] at ho
    cases ho
    rfl
theorem Tl.step {S : Nat → Prop} (h : Tl w e sz A n c xs) (hs : Step S w w') (hd : ∀ k, At A k → ¬ S k) : Tl w' e sz A n c xs := by
  refine ⟨h.1, ?_⟩
  rcases h.2 with ⟨rfl, rfl, rfl⟩ | ⟨g, off, cur, rfl, hg, h1⟩
  · exact .inl ⟨rfl, rfl, rfl⟩
  · exact .inr ⟨g, off, cur, rfl, hg.step hs (hd g ⟨_, rfl, rfl⟩), h1⟩
theorem Tl.sl (h : Tl w e sz A n c xs) : Sl w A n c sz xs := by
  rcases h.2 with ⟨rfl, rfl, rfl⟩ | ⟨g, off, cur, rfl, hg, h1, h2, h3, h4⟩
  · have : xs = [] := List.eq_nil_of_length_eq_zero (by rw [h.1, Nat.zero_mul])
    subst this
    exact Sl.nil w sz
  · refine ⟨h.1, h1, h2, fun _ => ⟨g, off, rfl, hg.lt, fun i u hu => ?_⟩⟩
    rw [hg.cell]
    rw [← h4, List.getElem?_take] at hu
    split at hu
    · rw [List.getElem?_drop] at hu; simpa using hu
    · cases hu
/-- s[i:]. -/
theorem Tl.drop (h : Tl w e sz A n c xs) {i : Nat} (hin : i ≤ n) : Tl w e sz (if c = i then A else A.map (·.add (i * sz))) (n - i) (c - i) (xs.drop (i * sz)) := by
  have hm : i * sz ≤ n * sz := Nat.mul_le_mul_right _ hin
  refine ⟨by rw [List.length_drop, h.1, Nat.sub_mul], ?_⟩
  rcases h.2 with ⟨rfl, rfl, rfl⟩ | ⟨g, off, cur, rfl, hg, h1, h2, h3, h4⟩
  · exact .inl ⟨by split <;> rfl, by omega, by omega⟩
  · have hmc : i * sz ≤ c * sz := Nat.mul_le_mul_right _ (Nat.le_trans hin h1)
    have hsub := Nat.sub_mul c i sz
    by_cases hc : c = i
    · subst hc
      have : n = c := by omega
      subst this
      rw [if_pos rfl, Nat.sub_self]
      refine .inr ⟨g, off, cur, rfl, hg, Nat.le_refl _, by omega, by omega, ?_⟩
      rw [Nat.zero_mul, List.take_zero, List.drop_eq_nil_of_le (by rw [h.1]; exact Nat.le_refl _)]
    · rw [if_neg hc]
      refine .inr ⟨g, off + i * sz, cur, by simp [add_none], hg, by omega, by omega, by omega, ?_⟩
      rw [← h4, List.drop_take, List.drop_drop, Nat.sub_mul]
/-- s[:j]. -/
theorem Tl.take (h : Tl w e sz A n c xs) {j : Nat} (hjn : j ≤ n) : Tl w e sz A j c (xs.take (j * sz)) := by
  have hm : j * sz ≤ n * sz := Nat.mul_le_mul_right _ hjn
  refine ⟨by rw [List.length_take, h.1]; omega, ?_⟩
  rcases h.2 with ⟨rfl, rfl, rfl⟩ | ⟨g, off, cur, rfl, hg, h1, h2, h3, h4⟩
  · exact .inl ⟨rfl, by omega, rfl⟩
  · refine .inr ⟨g, off, cur, rfl, hg, by omega, h2, h3, ?_⟩
    rw [← h4, List.take_take, Nat.min_eq_left hm]
end

section
variable {P : Program} {w : World}
/-- append onto such a row, of whatever can be read. -/
theorem run_append_tl (t u ty e : TypeId) (i : TypeInfo) (z : Value) (sz bytes : Nat) (ht : P.underlying t = some (.slice e)) (hu : P.underlying u = some (.slice e) ∨ P.underlying u = some .string) (hi : P.info? e = some i) (hz : i.zero = some z)
    (hsize : i.size = sz) (hby : i.bytes = bytes) (hzs : z.cells.size = sz) (hsz : 0 < sz) (A : Option Addr) (n c : Nat) (xs : List Value) (hown : Tl w e sz A n c xs)
    (x : Value) (m : Nat) (ys : List Value) (hyl : ys.length = m * sz) (hlen : ∀ w', (Builtin.lenOf x).run P w' = .ok m w') (hfc : (Builtin.firstCells sz m x).run P w = .ok ys.toArray w) (hfc2 : (Builtin.firstCells sz m x).run P w.drew = .ok ys.toArray w.drew)
    (h1 : ∀ u ∈ ys, u.oneCell' = true) (h63 : n + m ≤ maxLen) (hbytes : (n + m) * bytes ≤ 140737488355328) :
    ∃ A' c' w', (Builtin.append_ #[t, u] ty #[.slice A n c, x]).run P w = .ok (.slice A' (n + m) c') w' ∧ Tl w' e sz A' (n + m) c' (xs ++ ys) ∧ Step (At A) w w' ∧ (∀ k, At A' k → At A k ∨ w.heap.size ≤ k) := by
  subst hsize
  subst hby
  have hsmall : n + m ≤ 9223372036854775807 := by simp only [maxLen] at h63; omega
  have hxl := hown.1
  have hal : (xs ++ ys).length = (n + m) * i.size := by rw [List.length_append, hxl, hyl, Nat.add_mul]
  rcases hown.2 with ⟨rfl, rfl, rfl⟩ | ⟨g, off, cur, rfl, hg, hnc, hcm, hle, htk⟩
  · have hxs : xs = [] := List.eq_nil_of_length_eq_zero (by rw [hxl, Nat.zero_mul])
    subst hxs
    rw [Nat.zero_add] at h63 hbytes hsmall hal
    rw [Nat.zero_add, List.nil_append]
    rw [List.nil_append] at hal
    by_cases hm : m = 0
    · subst hm
      have hys : ys = [] := List.eq_nil_of_length_eq_zero (by rw [hyl, Nat.zero_mul])
      subst hys
      refine ⟨none, 0, w, ?_, Tl.nil w e _, Step.refl _ _, fun k hk => .inl hk⟩
      rcases hu with hu | hu <;> simp [Builtin.append_, run_underlying ht, run_underlying hu, sizeOf, typeInfo, hi, hlen, hfc]
    · have hn : ¬ (m ≤ 0) := by omega
      have h63' : ¬ (9223372036854775807 < (m : Int)) := by omega
      have h48' : ¬ (281474976710656 < Builtin.nextslicecap m 0 * i.bytes) := by
        have := growslice_fits (need := m) (old := 0) (bytes := i.bytes) (by omega) hbytes
        omega
      have hge := grownCap_ge w m 0 e
      have hcm := grownCap_le_maxLen w m 0 e h63
      refine ⟨some ⟨w.heap.size, 0, none⟩, grownCap w m 0 e, w.drew.alloc (.cells (ys.toArray ++ Builtin.zeroCells z.cells (grownCap w m 0 e - m)) e), ?_, ⟨hal, .inr ⟨w.heap.size, 0, _, rfl, heap_alloc_new w.drew _, hge, hcm, ?_, ?_⟩⟩, ((Step.refl _ _).drew).alloc _, fun k hk => .inr ?_⟩
      · rcases hu with hu | hu <;> simp [Builtin.append_, run_underlying ht, run_underlying hu, sizeOf, typeInfo, zeroValue, hi, hz, hlen, hm, h63', h48', Question.forced, hfc2, run_firstCells_none, newRow, grownCap]
      · simp only [Array.size_append, List.size_toArray, size_zeroCells, hzs, hyl, ← Nat.add_mul, Nat.zero_add]
        rw [Nat.add_sub_cancel' hge]
        exact Nat.le_refl _
      · rw [List.drop_zero, Array.toList_append, ← hal, List.take_left]
      · obtain ⟨a, ha, rfl⟩ := hk
        cases ha
        exact Nat.le_refl _
  · by_cases hroom : n + m ≤ c
    · have hmul : (n + m) * i.size ≤ c * i.size := Nat.mul_le_mul_right _ hroom
      rw [Nat.add_mul] at hmul
      have hst := run_storeCells_at P g (off + n * i.size) e ys 0 cur w hg (by omega) h1
      rw [Nat.add_zero] at hst
      obtain ⟨hb', hs'⟩ := Blk.setRow (w := w) hg (cur.toList.take (off + n * i.size) ++ ys ++ cur.toList.drop (off + n * i.size + ys.length)).toArray
      refine ⟨some ⟨g, off, none⟩, c, _, ?_, ⟨hal, .inr ⟨g, off, _, rfl, hb', hroom, hcm, ?_, ?_⟩⟩, hs'.mono (fun k _ hk => ⟨_, rfl, hk.symm⟩), fun k hk => .inl hk⟩
      · rcases hu with hu | hu <;> simp [Builtin.append_, run_underlying ht, run_underlying hu, sizeOf, typeInfo, hi, hlen, hfc, hroom, Addr.add_lit, hst]
      · have : cur.toList.length = cur.size := by simp
        simp only [List.size_toArray, List.length_append, List.length_take, List.length_drop]
        omega
      · have h5 : (cur.toList.take (off + n * i.size)).length = off + n * i.size := by
          rw [List.length_take]
          have : cur.toList.length = cur.size := by simp
          omega
        rw [List.append_assoc, List.drop_append_of_le_length (by omega), List.drop_take, Nat.add_sub_cancel_left, htk, ← List.append_assoc, ← hal, List.take_left]
    · have hn : ¬ (n + m ≤ c) := hroom
      have h63' : ¬ (9223372036854775807 < ((n : Int) + (m : Int))) := by omega
      have h48' : ¬ (281474976710656 < Builtin.nextslicecap (n + m) c * i.bytes) := by
        have := growslice_fits (need := n + m) (old := c) (bytes := i.bytes) (by omega) hbytes
        omega
      have hfo := run_firstCells_some (P := P) w.drew i.size n ⟨g, off, none⟩ n c xs hxl (by simpa using hown.sl.adds rfl)
      have hge := grownCap_ge w (n + m) c e
      have hcm := grownCap_le_maxLen w (n + m) c e h63
      refine ⟨some ⟨w.heap.size, 0, none⟩, grownCap w (n + m) c e, w.drew.alloc (.cells ((xs ++ ys).toArray ++ Builtin.zeroCells z.cells (grownCap w (n + m) c e - (n + m))) e), ?_, ⟨hal, .inr ⟨w.heap.size, 0, _, rfl, heap_alloc_new w.drew _, hge, hcm, ?_, ?_⟩⟩, ((Step.refl _ _).drew).alloc _, fun k hk => .inr ?_⟩
      · rcases hu with hu | hu <;> simp [Builtin.append_, run_underlying ht, run_underlying hu, sizeOf, typeInfo, zeroValue, hi, hz, hlen, hn, h63', h48', Question.forced, hfc2, hfo, newRow, grownCap] <;> (congr 2; apply Array.ext'; simp [List.append_assoc])
      · simp only [Array.size_append, List.size_toArray, size_zeroCells, hzs, hal, ← Nat.add_mul, Nat.zero_add]
        rw [Nat.add_sub_cancel' hge]
        exact Nat.le_refl _
      · rw [List.drop_zero, Array.toList_append, ← hal, List.take_left]
      · obtain ⟨a, ha, rfl⟩ := hk
        cases ha
        exact Nat.le_refl _
end

section
variable {P : Program} {w : World}
theorem src_len (B : Option Addr) (m d : Nat) (w' : World) : (Builtin.lenOf (.slice B m d)).run P w' = .ok m w' := by simp [Builtin.lenOf]
theorem src_cells {B : Option Addr} {m d sz : Nat} {ys : List Value} (hr : Sl w B m d sz ys) : (Builtin.firstCells sz m (.slice B m d)).run P w = .ok ys.toArray w := by
  cases B with
  | none =>
    have : ys = [] := by
      by_cases h : ys = []
      · exact h
      · obtain ⟨b, off, e, _⟩ := hr.rd h
        cases e
    subst this
    exact run_firstCells_none _ _ _ _ _
  | some b => exact run_firstCells_some w sz m b m d ys hr.len (hr.adds rfl)
theorem src_str_len (l : List UInt8) (w' : World) : (Builtin.lenOf (.string (str l))).run P w' = .ok l.length w' := by simp [Builtin.lenOf, str_size]
theorem src_str_cells (l : List UInt8) (w : World) : (Builtin.firstCells 1 l.length (.string (str l))).run P w = .ok (u8s l).toArray w := by
  have h := Lib.run_firstCells_string (P := P) w 1 (str l)
  rwa [str_size, strCells_str] at h
end

/-- A part of memory: the blocks that it owns, those that it reads, what holds there. -/
structure Ent where
  own : Nat → Prop
  rd : Nat → Prop
  holds : World → Prop
  isC : Bool
  lt : ∀ {w : World}, holds w → ∀ k, own k ∨ rd k → k < w.heap.size
  keep : ∀ {S : Nat → Prop} {w w' : World}, holds w → Step S w w' → (∀ k, own k ∨ rd k → ¬ S k) → holds w'
  cel : isC = true → ∀ {w : World}, holds w → ∀ k, own k ∨ rd k → ∀ o : Obj, w.heap[k]? = some o → o.isCells = true

/-- A block whole. -/
def eBlk (g : Nat) (t : TypeId) (xs : List Value) : Ent where
  own k := k = g
  rd _ := False
  holds w := Blk w g t xs.toArray
  isC := true
  lt h k hk := by rcases hk with rfl | hk; exact h.lt; exact hk.elim
  keep h hs hd := h.step hs (hd g (.inl rfl))
  cel _ _ h k hk o ho := by rcases hk with rfl | hk; exact h.isCells ho; exact hk.elim
/-- A row of one's own. -/
def eOwn (e : TypeId) (sz : Nat) (A : Option Addr) (n c : Nat) (xs : List Value) : Ent where
  own k := At A k
  rd _ := False
  holds w := Tl w e sz A n c xs
  isC := true
  lt h k hk := by rcases hk with hk | hk; exact h.lt hk; exact hk.elim
  keep h hs hd := h.step hs (fun k hk => hd k (.inl hk))
  cel _ _ h k hk o ho := by rcases hk with hk | hk; exact h.isCells hk ho; exact hk.elim
/-- A slice that is read. -/
def eSl (A : Option Addr) (n c sz : Nat) (xs : List Value) : Ent where
  own _ := False
  rd k := Ft A n k
  holds w := 0 < sz ∧ Sl w A n c sz xs
  isC := true
  lt h k hk := by rcases hk with hk | hk; exact hk.elim; exact h.2.ft_lt h.1 hk
  keep h hs hd := ⟨h.1, h.2.step hs (fun k hk => hd k (.inr hk))⟩
  cel _ w h k hk o ho := by
    rcases hk with hk | hk
    · exact hk.elim
    · obtain ⟨hn, a, rfl, rfl⟩ := hk
      have hx : xs ≠ [] := by
        intro e
        have h1 := h.2.len
        rw [e] at h1
        have h2 := Nat.mul_pos hn h.1
        simp at h1
        omega
      obtain ⟨b, off, e, _, hc⟩ := h.2.rd hx
      injection e with e
      subst e
      cases xs with
      | nil => exact absurd rfl hx
      | cons u xs => exact isCells_of_cell (hc 0 u rfl) ho

/-- From w0 to w nothing has turned but blocks of S and what is new; in w lie the parts of L, apart from each other; what they own is S's or new. -/
structure St (S : Nat → Prop) (w0 w : World) (L : List Ent) : Prop where
  step : Step S w0 w
  holds : ∀ x ∈ L, x.holds w
  foot : ∀ x ∈ L, ∀ k, x.own k → S k ∨ w0.heap.size ≤ k
  apart : L.Pairwise fun x y => ∀ k, (x.own k → ¬ (y.own k ∨ y.rd k)) ∧ (x.rd k → ¬ y.own k)

/-- L has e, and else F. -/
class Slot (L : List Ent) (e : Ent) (F : outParam (List Ent)) : Prop where
  perm : L.Perm (e :: F)
instance (priority := high) Slot.hit (e : Ent) (L : List Ent) : Slot (e :: L) e L := ⟨.refl _⟩
instance Slot.miss (x e : Ent) (L F : List Ent) [h : Slot L e F] : Slot (x :: L) e (x :: F) := ⟨(h.perm.cons x).trans (.swap _ _ _)⟩
class SlotB (L : List Ent) (g : Nat) (t : outParam TypeId) (xs : outParam (List Value)) (F : outParam (List Ent)) : Prop where
  perm : L.Perm (eBlk g t xs :: F)
instance (priority := high) SlotB.hit (g : Nat) (t : TypeId) (xs : List Value) (L : List Ent) : SlotB (eBlk g t xs :: L) g t xs L := ⟨.refl _⟩
instance SlotB.miss (x : Ent) (g : Nat) (t : TypeId) (xs : List Value) (L F : List Ent) [h : SlotB L g t xs F] : SlotB (x :: L) g t xs (x :: F) := ⟨(h.perm.cons x).trans (.swap _ _ _)⟩
class SlotO (L : List Ent) (A : Option Addr) (e : outParam TypeId) (sz n c : outParam Nat) (xs : outParam (List Value)) (F : outParam (List Ent)) : Prop where
  perm : L.Perm (eOwn e sz A n c xs :: F)
instance (priority := high) SlotO.hit (A : Option Addr) (e : TypeId) (sz n c : Nat) (xs : List Value) (L : List Ent) : SlotO (eOwn e sz A n c xs :: L) A e sz n c xs L := ⟨.refl _⟩
instance SlotO.miss (x : Ent) (A : Option Addr) (e : TypeId) (sz n c : Nat) (xs : List Value) (L F : List Ent) [h : SlotO L A e sz n c xs F] : SlotO (x :: L) A e sz n c xs (x :: F) := ⟨(h.perm.cons x).trans (.swap _ _ _)⟩
/-- L has all of L', and maybe more. -/
class Sub (L L' : List Ent) : Prop where
  sub : ∃ R, L.Perm (L' ++ R)
instance Sub.nil (L : List Ent) : Sub L [] := ⟨L, .refl _⟩
instance (priority := low) Sub.refl (L : List Ent) : Sub L L := ⟨[], by simp⟩
instance (priority := low) Sub.drop (x : Ent) (L L' : List Ent) [k : Sub L L'] : Sub (x :: L) L' := ⟨by
  obtain ⟨R, hR⟩ := k.sub
  exact ⟨x :: R, (hR.cons x).trans List.perm_middle.symm⟩⟩
instance Sub.cons (L F L' : List Ent) (e : Ent) [h : Slot L e F] [k : Sub F L'] : Sub L (e :: L') := ⟨by
  obtain ⟨R, hR⟩ := k.sub
  exact ⟨R, h.perm.trans (hR.cons e)⟩⟩

section
variable {S : Nat → Prop} {w0 w w' : World} {L F L' : List Ent}
theorem St.nil (w : World) : St (fun _ => False) w w [] := ⟨Step.refl _ _, by simp, by simp, .nil⟩
theorem St.perm (h : St S w0 w L) (hp : L.Perm L') : St S w0 w L' :=
  ⟨h.step, fun x hx => h.holds x (hp.mem_iff.2 hx), fun x hx => h.foot x (hp.mem_iff.2 hx), (List.Perm.pairwise_iff (fun {x y} hxy k => ⟨fun hy hx => by
    rcases hx with hx | hx
    · exact (hxy k).1 hx (.inl hy)
    · exact (hxy k).2 hx hy, fun hy hx => (hxy k).1 hx (.inr hy)⟩) hp).1 h.apart⟩
theorem St.to (h : St S w0 w L) [k : Sub L L'] : St S w0 w L' := by
  obtain ⟨R, hR⟩ := k.sub
  have h2 := h.perm hR
  exact ⟨h2.step, fun x hx => h2.holds x (List.mem_append_left _ hx), fun x hx => h2.foot x (List.mem_append_left _ hx), (List.pairwise_append.1 h2.apart).1⟩
theorem St.get {e : Ent} (h : St S w0 w L) [k : Slot L e F] : e.holds w := h.holds e (k.perm.mem_iff.2 List.mem_cons_self)
theorem St.blk (h : St S w0 w L) (g : Nat) {t : TypeId} {xs : List Value} [k : SlotB L g t xs F] : Blk w g t xs.toArray := (h.perm k.perm).holds _ List.mem_cons_self
theorem St.row (h : St S w0 w L) (A : Option Addr) {e : TypeId} {sz n c : Nat} {xs : List Value} [k : SlotO L A e sz n c xs F] : Tl w e sz A n c xs := (h.perm k.perm).holds _ List.mem_cons_self
/-- Behind a step that leaves all parts alone. -/
theorem St.quiet (h : St S w0 w L) (hs : Step (fun _ => False) w w') : St S w0 w' L :=
  ⟨h.step.trans hs (fun _ _ h => h.elim), fun x hx => x.keep (h.holds x hx) hs (fun _ _ h => h), h.foot, h.apart⟩
theorem St.drew (h : St S w0 w L) : St S w0 w.drew L := h.quiet (Step.refl _ _).drew
/-- A new part. -/
theorem St.add (h : St S w0 w L) (hs : Step (fun _ => False) w w') (x : Ent) (hx : x.holds w') (hn : ∀ k, x.own k → w.heap.size ≤ k) (hr : ∀ k, ¬ x.rd k) : St S w0 w' (x :: L) := by
  have h2 := h.quiet hs
  refine ⟨h2.step, fun y hy => ?_, fun y hy k hk => ?_, List.pairwise_cons.2 ⟨fun y hy k => ⟨fun hk hyk => ?_, fun hk => (hr k hk).elim⟩, h2.apart⟩⟩
  · rcases List.mem_cons.1 hy with rfl | hy
    · exact hx
    · exact h2.holds y hy
  · rcases List.mem_cons.1 hy with rfl | hy
    · have := hn k hk; have := h.step.size; exact .inr (by omega)
    · exact h2.foot y hy k hk
  · have h3 := y.lt (h.holds y hy) k hyk
    have := hn k hk
    omega
/-- A part that is read, of old blocks that none of the parts owns. -/
theorem St.addRd (h : St S w0 w L) (x : Ent) (hx : x.holds w) (ho : ∀ k, ¬ x.own k) (hr : ∀ k, x.rd k → k < w0.heap.size ∧ ¬ S k) : St S w0 w (x :: L) := by
  refine ⟨h.step, fun y hy => ?_, fun y hy k hk => ?_, List.pairwise_cons.2 ⟨fun y hy k => ⟨fun hk => (ho k hk).elim, fun hk hyk => ?_⟩, h.apart⟩⟩
  · rcases List.mem_cons.1 hy with rfl | hy
    · exact hx
    · exact h.holds y hy
  · rcases List.mem_cons.1 hy with rfl | hy
    · exact (ho k hk).elim
    · exact h.foot y hy k hk
  · have := hr k hk
    rcases h.foot y hy k hyk with h3 | h3
    · exact this.2 h3
    · omega
/-- One part turned: by itself alone, or into new blocks. -/
theorem St.set {e : Ent} (h : St S w0 w L) [k : Slot L e F] (e' : Ent) (hs : Step e.own w w') (hx : e'.holds w') (hn : ∀ k, e'.own k → e.own k ∨ w.heap.size ≤ k) (hr : ∀ k, ¬ e'.rd k) : St S w0 w' (e' :: F) := by
  have h1 := h.perm k.perm
  have hp := List.pairwise_cons.1 h1.apart
  refine ⟨h1.step.trans hs (fun i hi hk => ?_), fun y hy => ?_, fun y hy k hk => ?_, List.pairwise_cons.2 ⟨fun y hy k => ⟨fun hk hyk => ?_, fun hk => (hr k hk).elim⟩, hp.2⟩⟩
  · rcases h1.foot e List.mem_cons_self i hk with h2 | h2
    · exact h2
    · omega
  · rcases List.mem_cons.1 hy with rfl | hy
    · exact hx
    · exact y.keep (h1.holds y (List.mem_cons_of_mem _ hy)) hs (fun k hk he => (hp.1 y hy k).1 he hk)
  · rcases List.mem_cons.1 hy with rfl | hy
    · rcases hn k hk with h2 | h2
      · exact h1.foot e List.mem_cons_self k h2
      · have := h.step.size; exact .inr (by omega)
    · exact h1.foot y (List.mem_cons_of_mem _ hy) k hk
  · rcases hn k hk with h2 | h2
    · exact (hp.1 y hy k).1 h2 hyk
    · have := y.lt (h1.holds y (List.mem_cons_of_mem _ hy)) k hyk
      omega
/-- One part said otherwise. -/
theorem St.recast {e : Ent} (h : St S w0 w L) [k : Slot L e F] (e' : Ent) (hx : e'.holds w) (hn : ∀ k, e'.own k → e.own k) (hr : ∀ k, ¬ e'.rd k) : St S w0 w (e' :: F) :=
  h.set (k := k) e' (Step.refl _ _) hx (fun k hk => .inl (hn k hk)) hr
theorem St.dropRow (h : St S w0 w L) (A : Option Addr) (i : Nat) {e : TypeId} {sz n c : Nat} {xs : List Value} [k : SlotO L A e sz n c xs F] (hin : i ≤ n) :
    St S w0 w (eOwn e sz (if c = i then A else A.map (·.add (i * sz))) (n - i) (c - i) (xs.drop (i * sz)) :: F) :=
  h.recast (k := ⟨k.perm⟩) (eOwn e sz (if c = i then A else A.map (·.add (i * sz))) (n - i) (c - i) (xs.drop (i * sz))) ((h.row A (k := k)).drop hin) (fun _ hk => at_cut hk) (fun _ hk => hk)
theorem St.takeRow (h : St S w0 w L) (A : Option Addr) (j : Nat) {e : TypeId} {sz n c : Nat} {xs : List Value} [k : SlotO L A e sz n c xs F] (hjn : j ≤ n) :
    St S w0 w (eOwn e sz A j c (xs.take (j * sz)) :: F) :=
  h.recast (k := ⟨k.perm⟩) (eOwn e sz A j c (xs.take (j * sz))) ((h.row A (k := k)).take hjn) (fun _ hk => hk) (fun _ hk => hk)
theorem Step.own_blk {g : Nat} {t : TypeId} {xs : List Value} (h : Step (fun k => k = g) w w') : Step (eBlk g t xs).own w w' := h
/-- Parts that read nothing of others. -/
class NoRd (L : List Ent) : Prop where
  no : ∀ x ∈ L, ∀ k, ¬ x.rd k
instance : NoRd [] := ⟨by simp⟩
instance NoRd.blk (g : Nat) (t : TypeId) (xs : List Value) (L : List Ent) [h : NoRd L] : NoRd (eBlk g t xs :: L) := ⟨fun x hx k hk => by
  rcases List.mem_cons.1 hx with rfl | hx
  · exact hk
  · exact h.no x hx k hk⟩
instance NoRd.row (e : TypeId) (sz : Nat) (A : Option Addr) (n c : Nat) (xs : List Value) (L : List Ent) [h : NoRd L] : NoRd (eOwn e sz A n c xs :: L) := ⟨fun x hx k hk => by
  rcases List.mem_cons.1 hx with rfl | hx
  · exact hk
  · exact h.no x hx k hk⟩
/-- What a callee has done that was given the parts E. -/
theorem St.frame {T : Nat → Prop} {E : List Ent} (h : St S w0 w (E ++ F)) (k : St T w w' L') (hT : ∀ i, T i → ∃ x ∈ E, x.own i) [nr : NoRd L'] : St S w0 w' (L' ++ F) := by
  have hp := List.pairwise_append.1 h.apart
  have hF : ∀ x ∈ F, x.holds w' := fun x hx => x.keep (h.holds x (List.mem_append_right _ hx)) k.step (fun i hi ht => by
    obtain ⟨y, hy, hyi⟩ := hT i ht
    exact ((hp.2.2 y hy x hx i).1 hyi) hi)
  have hT2 : ∀ i, T i → S i ∨ w0.heap.size ≤ i := fun i ht => by
    obtain ⟨y, hy, hyi⟩ := hT i ht
    exact h.foot y (List.mem_append_left _ hy) i hyi
  have hs := h.step.size
  refine ⟨h.step.trans k.step (fun i hi ht => (hT2 i ht).resolve_right (by omega)), fun y hy => ?_, fun y hy i hi => ?_, List.pairwise_append.2 ⟨k.apart, hp.2.1, fun x hx y hy i => ⟨fun hi hy2 => ?_, fun hi hy2 => nr.no x hx i hi⟩⟩⟩
  · rcases List.mem_append.1 hy with hy | hy
    · exact k.holds y hy
    · exact hF y hy
  · rcases List.mem_append.1 hy with hy | hy
    · rcases k.foot y hy i hi with h3 | h3
      · exact hT2 i h3
      · exact .inr (by omega)
    · exact h.foot y (List.mem_append_right _ hy) i hi
  · rcases k.foot x hx i hi with h4 | h4
    · obtain ⟨z, hz, hzi⟩ := hT i h4
      exact (hp.2.2 z hz y hy i).1 hzi hy2
    · have h3 := y.lt (h.holds y (List.mem_append_right _ hy)) i hy2
      omega
theorem St.frame0 (h : St S w0 w L) (k : St (fun _ => False) w w' L') [NoRd L'] : St S w0 w' (L' ++ L) :=
  St.frame (E := []) h k (fun _ h => h.elim)
theorem St.frame1 {e : Ent} (h : St S w0 w L) [s : Slot L e F] (k : St e.own w w' L') [NoRd L'] : St S w0 w' (L' ++ F) :=
  St.frame (E := [e]) (h.perm s.perm) k (fun i hi => ⟨e, List.mem_cons_self, hi⟩)
theorem St.frame2 {e1 e2 : Ent} {F1 F2 : List Ent} (h : St S w0 w L) [s : Slot L e1 F1] [s2 : Slot F1 e2 F2] (k : St (fun i => e1.own i ∨ e2.own i) w w' L') [NoRd L'] : St S w0 w' (L' ++ F2) :=
  St.frame (E := [e1, e2]) (h.perm (s.perm.trans (s2.perm.cons e1))) k (fun i hi => by
    rcases hi with hi | hi
    · exact ⟨e1, by simp, hi⟩
    · exact ⟨e2, by simp, hi⟩)
theorem St.frame01 {x : Ent} (h : St S w0 w L) (k : St (fun _ => False) w w' [x]) [NoRd [x]] : St S w0 w' (x :: L) := h.frame0 k
theorem St.frame02 {x y : Ent} (h : St S w0 w L) (k : St (fun _ => False) w w' [x, y]) [NoRd [x, y]] : St S w0 w' (x :: y :: L) := h.frame0 k
theorem St.frame11 {e x : Ent} (h : St S w0 w L) [s : Slot L e F] (k : St e.own w w' [x]) [NoRd [x]] : St S w0 w' (x :: F) := h.frame1 (s := s) k
theorem St.frame12 {e x y : Ent} (h : St S w0 w L) [s : Slot L e F] (k : St e.own w w' [x, y]) [NoRd [x, y]] : St S w0 w' (x :: y :: F) := h.frame1 (s := s) k
/-- Begun with one part, two parts. -/
theorem St.one {e : Ent} (h : e.holds w) : St e.own w w [e] :=
  ⟨Step.refl _ _, by simpa using h, by simp; exact fun k hk => .inl hk, by simp⟩
theorem St.two {e1 e2 : Ent} (h1 : e1.holds w) (h2 : e2.holds w) (ha : ∀ k, (e1.own k → ¬ (e2.own k ∨ e2.rd k)) ∧ (e1.rd k → ¬ e2.own k)) : St (fun i => e1.own i ∨ e2.own i) w w [e1, e2] :=
  ⟨Step.refl _ _, by simp [h1, h2], fun x hx k hk => by
    simp at hx
    rcases hx with rfl | rfl
    · exact .inl (.inl hk)
    · exact .inl (.inr hk), by simpa using ha⟩
theorem St.reading {A : Option Addr} {n c sz : Nat} {xs : List Value} (h : St S w0 w L) (hl : Sl w A n c sz xs) (hsz : 0 < sz) (hr : ∀ k, Ft A n k → k < w0.heap.size ∧ ¬ S k) : St S w0 w (eSl A n c sz xs :: L) :=
  h.addRd (eSl A n c sz xs) ⟨hsz, hl⟩ (fun _ h => h) hr
theorem St.read0 {A : Option Addr} {n c sz : Nat} {xs : List Value} (hl : Sl w A n c sz xs) (hsz : 0 < sz) : St (fun _ => False) w w [eSl A n c sz xs] :=
  (St.nil w).reading hl hsz (fun _ hk => ⟨hl.ft_lt hsz hk, id⟩)
/-- Begun anew at w. -/
theorem St.anew (h : St S w0 w L) : St (fun i => ∃ x ∈ L, x.own i) w w L :=
  ⟨Step.refl _ _, h.holds, fun x hx k hk => .inl ⟨x, hx, hk⟩, h.apart⟩
theorem St.after {T : Nat → Prop} (h : St S w0 w L) (k : St T w w' L') (hT : ∀ i, T i → ∃ x ∈ L, x.own i) : St S w0 w' L' := by
  have hs := h.step.size
  have hT2 : ∀ i, T i → S i ∨ w0.heap.size ≤ i := fun i ht => by
    obtain ⟨y, hy, hyi⟩ := hT i ht
    exact h.foot y hy i hyi
  refine ⟨h.step.trans k.step (fun i hi ht => (hT2 i ht).resolve_right (by omega)), k.holds, fun y hy i hi => ?_, k.apart⟩
  rcases k.foot y hy i hi with h3 | h3
  · exact hT2 i h3
  · exact .inr (by omega)
theorem St.below (h : St (fun _ => False) w0 w L) : Step (fun _ => False) w0 w := h.step
end

/-- Two parts as one. -/
def eStar (a b : Ent) : Ent where
  own k := a.own k ∨ b.own k
  rd k := a.rd k ∨ b.rd k
  holds w := a.holds w ∧ b.holds w ∧ ∀ k, (a.own k → ¬ (b.own k ∨ b.rd k)) ∧ (a.rd k → ¬ b.own k)
  isC := a.isC && b.isC
  lt h k hk := by
    rcases hk with (hk | hk) | (hk | hk)
    · exact a.lt h.1 k (.inl hk)
    · exact b.lt h.2.1 k (.inl hk)
    · exact a.lt h.1 k (.inr hk)
    · exact b.lt h.2.1 k (.inr hk)
  keep h hs hd := ⟨a.keep h.1 hs fun k hk => hd k (hk.imp .inl .inl), b.keep h.2.1 hs fun k hk => hd k (hk.imp .inr .inr), h.2.2⟩
  cel hc w h k hk o ho := by
    simp only [Bool.and_eq_true] at hc
    rcases hk with (hk | hk) | (hk | hk)
    · exact a.cel hc.1 h.1 k (.inl hk) o ho
    · exact b.cel hc.2 h.2.1 k (.inl hk) o ho
    · exact a.cel hc.1 h.1 k (.inr hk) o ho
    · exact b.cel hc.2 h.2.1 k (.inr hk) o ho
theorem St.unstar {S : Nat → Prop} {w0 w : World} {F : List Ent} {a b : Ent} (h : St S w0 w (eStar a b :: F)) : St S w0 w (a :: b :: F) := by
  have hp := List.pairwise_cons.1 h.apart
  have hh : (eStar a b).holds w := h.holds _ List.mem_cons_self
  refine ⟨h.step, fun x hx => ?_, fun x hx k hk => ?_, List.pairwise_cons.2 ⟨fun y hy k => ?_, List.pairwise_cons.2 ⟨fun y hy k => ?_, hp.2⟩⟩⟩
  · rcases List.mem_cons.1 hx with rfl | hx
    · exact hh.1
    · rcases List.mem_cons.1 hx with rfl | hx
      · exact hh.2.1
      · exact h.holds x (List.mem_cons_of_mem _ hx)
  · rcases List.mem_cons.1 hx with rfl | hx
    · exact h.foot _ List.mem_cons_self k (.inl hk)
    · rcases List.mem_cons.1 hx with rfl | hx
      · exact h.foot _ List.mem_cons_self k (.inr hk)
      · exact h.foot x (List.mem_cons_of_mem _ hx) k hk
  · rcases List.mem_cons.1 hy with rfl | hy
    · exact hh.2.2 k
    · exact ⟨fun hk => (hp.1 y hy k).1 (.inl hk), fun hk => (hp.1 y hy k).2 (.inl hk)⟩
  · exact ⟨fun hk => (hp.1 y hy k).1 (.inr hk), fun hk => (hp.1 y hy k).2 (.inr hk)⟩
theorem St.star {S : Nat → Prop} {w0 w : World} {F : List Ent} {a b : Ent} (h : St S w0 w (a :: b :: F)) : St S w0 w (eStar a b :: F) := by
  have h1 := List.pairwise_cons.1 h.apart
  have h2 := List.pairwise_cons.1 h1.2
  refine ⟨h.step, fun x hx => ?_, fun x hx k hk => ?_, List.pairwise_cons.2 ⟨fun y hy k => ⟨fun hk => ?_, fun hk => ?_⟩, h2.2⟩⟩
  · rcases List.mem_cons.1 hx with rfl | hx
    · exact ⟨h.holds a (by simp), h.holds b (by simp), fun k => h1.1 b List.mem_cons_self k⟩
    · exact h.holds x (by simp [hx])
  · rcases List.mem_cons.1 hx with rfl | hx
    · rcases hk with hk | hk
      · exact h.foot a (by simp) k hk
      · exact h.foot b (by simp) k hk
    · exact h.foot x (by simp [hx]) k hk
  · rcases hk with hk | hk
    · exact (h1.1 y (List.mem_cons_of_mem _ hy) k).1 hk
    · exact (h2.1 y hy k).1 hk
  · rcases hk with hk | hk
    · exact (h1.1 y (List.mem_cons_of_mem _ hy) k).2 hk
    · exact (h2.1 y hy k).2 hk
instance NoRd.star (a b : Ent) (L : List Ent) [h : NoRd (a :: b :: L)] : NoRd (eStar a b :: L) := ⟨fun x hx k hk => by
  rcases List.mem_cons.1 hx with rfl | hx
  · rcases hk with hk | hk
    · exact h.no a (by simp) k hk
    · exact h.no b (by simp) k hk
  · exact h.no x (by simp [hx]) k hk⟩
/-- The part that has the key g, and else F. -/
class SlotAt (L : List Ent) (g : Nat) (e : outParam Ent) (F : outParam (List Ent)) : Prop where
  perm : L.Perm (e :: F)
instance SlotAt.miss (x e : Ent) (g : Nat) (L F : List Ent) [h : SlotAt L g e F] : SlotAt (x :: L) g e (x :: F) := ⟨(h.perm.cons x).trans (.swap _ _ _)⟩
theorem St.at_ {S : Nat → Prop} {w0 w : World} {L F : List Ent} {e : Ent} (h : St S w0 w L) (g : Nat) [k : SlotAt L g e F] : St S w0 w (e :: F) := h.perm k.perm
/-- A row of nothing. -/
theorem St.nilRow {S : Nat → Prop} {w0 w : World} {L : List Ent} (h : St S w0 w L) (e : TypeId) (sz : Nat) : St S w0 w (eOwn e sz none 0 0 [] :: L) :=
  h.add (Step.refl _ _) (eOwn e sz none 0 0 []) (Tl.nil w e sz) (fun _ hk => (at_nil hk).elim) (fun _ hk => hk)

/-! ### Slices as they are read -/
class HasSl (L : List Ent) (A : Option Addr) (n c : Nat) (sz : outParam Nat) (xs : outParam (List Value)) : Prop where
  sl : ∀ w, (∀ x ∈ L, x.holds w) → Sl w A n c sz xs
instance (priority := high) HasSl.hit (A : Option Addr) (n c sz : Nat) (xs : List Value) (L : List Ent) : HasSl (eSl A n c sz xs :: L) A n c sz xs := ⟨fun w h => (h _ List.mem_cons_self).2⟩
instance (priority := high) HasSl.own (A : Option Addr) (n c sz : Nat) (xs : List Value) (e : TypeId) (L : List Ent) : HasSl (eOwn e sz A n c xs :: L) A n c sz xs := ⟨fun w h => Tl.sl (h (eOwn e sz A n c xs) List.mem_cons_self)⟩
instance HasSl.miss (x : Ent) (A : Option Addr) (n c sz : Nat) (xs : List Value) (L : List Ent) [h : HasSl L A n c sz xs] : HasSl (x :: L) A n c sz xs := ⟨fun w hw => h.sl w (fun y hy => hw y (List.mem_cons_of_mem _ hy))⟩
/-- The cells xs are so many; each is one cell. -/
class Row (xs : List Value) (n : outParam Nat) : Prop where
  len : xs.length = n
  one : ∀ u ∈ xs, u.oneCell' = true
  small : n ≤ 100000
instance (priority := high) HasSl.blk (g n : Nat) (t : TypeId) (xs : List Value) (L : List Ent) [h : Row xs n] : HasSl (eBlk g t xs :: L) (some ⟨g, 0, none⟩) n n 1 xs := ⟨fun w hw => by
  have hb : Blk w g t xs.toArray := hw (eBlk g t xs) List.mem_cons_self
  exact hb.sl_ h.len (by have := h.small; simp [maxLen]; omega)⟩
theorem St.sl {S : Nat → Prop} {w0 w : World} {L : List Ent} (h : St S w0 w L) (A : Option Addr) (n c : Nat) {sz : Nat} {xs : List Value} [k : HasSl L A n c sz xs] : Sl w A n c sz xs := k.sl w h.holds
/-- One element in a block of its own. -/
theorem St.slBox {S : Nat → Prop} {w0 w : World} {L F : List Ent} (h : St S w0 w L) (g : Nat) {n : Nat} {t : TypeId} {xs : List Value} [k : SlotB L g t xs F] [r : Row xs n] : Sl w (some ⟨g, 0, none⟩) 1 1 n xs :=
  ⟨by rw [r.len, Nat.one_mul], Nat.le_refl _, by simp [maxLen], fun _ => ⟨g, 0, rfl, (h.blk g (k := k)).lt, fun i u hu => by rw [Nat.zero_add, (h.blk g (k := k)).cell]; simpa using hu⟩⟩
/-- All blocks from lo to hi. -/
def eZone (lo hi : Nat) (P : World → Prop) (hP : ∀ {S : Nat → Prop} {w w' : World}, P w → Step S w w' → (∀ k, lo ≤ k → k < hi → ¬ S k) → P w') : Ent where
  own k := lo ≤ k ∧ k < hi
  rd _ := False
  holds w := P w ∧ hi ≤ w.heap.size
  isC := false
  lt h k hk := by rcases hk with hk | hk; exact Nat.lt_of_lt_of_le hk.2 h.2; exact hk.elim
  keep h hs hd := ⟨hP h.1 hs (fun k h1 h2 => hd k (.inl ⟨h1, h2⟩)), Nat.le_trans h.2 hs.size⟩
  cel hc := by cases hc
class SlotZ (L : List Ent) (lo : Nat) (hi : outParam Nat) (P : outParam (World → Prop)) : Prop where
  get : ∀ w, (∀ x ∈ L, x.holds w) → P w
instance (priority := high) SlotZ.hit (lo hi : Nat) (P : World → Prop) (hP : ∀ {S : Nat → Prop} {w w' : World}, P w → Step S w w' → (∀ k, lo ≤ k → k < hi → ¬ S k) → P w') (L : List Ent) : SlotZ (eZone lo hi P hP :: L) lo hi P := ⟨fun w h => (h (eZone lo hi P hP) List.mem_cons_self).1⟩
instance SlotZ.miss (x : Ent) (lo hi : Nat) (P : World → Prop) (L : List Ent) [h : SlotZ L lo hi P] : SlotZ (x :: L) lo hi P := ⟨fun w hw => h.get w (fun y hy => hw y (List.mem_cons_of_mem _ hy))⟩
theorem St.zone {S : Nat → Prop} {w0 w : World} {L : List Ent} (h : St S w0 w L) (lo : Nat) {hi : Nat} {P : World → Prop} [k : SlotZ L lo hi P] : P w := k.get w h.holds
instance NoRd.zone (lo hi : Nat) (P : World → Prop) (hP : ∀ {S : Nat → Prop} {w w' : World}, P w → Step S w w' → (∀ k, lo ≤ k → k < hi → ¬ S k) → P w') (L : List Ent) [h : NoRd L] : NoRd (eZone lo hi P hP :: L) := ⟨fun x hx k hk => by
  rcases List.mem_cons.1 hx with rfl | hx
  · exact hk
  · exact h.no x hx k hk⟩
end Go.Proofs.Ytionnlckjjojnaa
namespace Go.Proofs.Ytionnlckjjojnaa
open Go.RowKit
set_option linter.unusedVariables false

/-! ### What is known of types -/
class Siz (P : Program) (ty : TypeId) (n : outParam Nat) : Prop where
  eq : (P.info? ty).map (·.size) = some n
class Agg (P : Program) (ty : TypeId) : Prop where
  eq : ∃ d, P.underlying ty = some d ∧ d.isRow = true
class One (P : Program) (ty : TypeId) : Prop where
  eq : ∃ d, P.underlying ty = some d ∧ d.isRow = false
  siz : (P.info? ty).map (·.size) = some 1
class Zer (P : Program) (ty : TypeId) (zs : outParam (List Value)) : Prop where
  eq : ∃ z, (P.info? ty).map (·.zero) = some (some z) ∧ z.cells = zs.toArray
class Elm (P : Program) (t : TypeId) (e : outParam TypeId) (sz bytes : outParam Nat) : Prop where
  und : P.underlying t = some (.slice e)
  info : ∃ i z, P.info? e = some i ∧ i.zero = some z ∧ i.size = sz ∧ i.bytes = bytes ∧ z.cells.size = sz
  pos : 0 < sz

/-! ### What is known of cells -/
class OneV (v : Value) : Prop where
  cells : v.cells = #[v]
  one : v.oneCell' = true
instance (k : IntKind) (n : Int) : OneV (.int k n) := ⟨rfl, rfl⟩
instance (b : Bool) : OneV (.bool b) := ⟨rfl, rfl⟩
instance (s : ByteArray) : OneV (.string s) := ⟨rfl, rfl⟩
instance (a : Option Addr) : OneV (.pointer a) := ⟨rfl, rfl⟩
instance (a : Option Addr) (n c : Nat) : OneV (.slice a n c) := ⟨rfl, rfl⟩
instance (r : Option Nat) : OneV (.map r) := ⟨rfl, rfl⟩
instance (f : Fn) (a b : Array Value) : OneV (.func f a b) := ⟨rfl, rfl⟩
instance : OneV .nilFunc := ⟨rfl, rfl⟩
instance Row.nil : Row [] 0 := ⟨rfl, by simp, by omega⟩
class Tiny (n : Nat) : Prop where
  le : n ≤ 100000
instance : Tiny 0 := ⟨by omega⟩
theorem Row.mk' {xs : List Value} {n : Nat} (h : xs.length = n) (h1 : ∀ u ∈ xs, u.oneCell' = true) (hn : n ≤ 100000) : Row xs n := ⟨h, h1, hn⟩
instance Row.one1 (a : Value) [ha : OneV a] : Row [a] 1 := Row.mk' rfl (by simp [ha.one]) (by omega)
instance Row.one2 (a b : Value) [ha : OneV a] [hb : OneV b] : Row [a, b] 2 := Row.mk' rfl (by simp [ha.one, hb.one]) (by omega)
instance Row.one3 (a b c : Value) [ha : OneV a] [hb : OneV b] [hc : OneV c] : Row [a, b, c] 3 := Row.mk' rfl (by simp [ha.one, hb.one, hc.one]) (by omega)
instance Row.one4 (a b c d : Value) [ha : OneV a] [hb : OneV b] [hc : OneV c] [hd : OneV d] : Row [a, b, c, d] 4 := Row.mk' rfl (by simp [ha.one, hb.one, hc.one, hd.one]) (by omega)
instance Row.one5 (a b c d e : Value) [ha : OneV a] [hb : OneV b] [hc : OneV c] [hd : OneV d] [he : OneV e] : Row [a, b, c, d, e] 5 := Row.mk' rfl (by simp [ha.one, hb.one, hc.one, hd.one, he.one]) (by omega)
instance Row.one6 (a b c d e f : Value) [ha : OneV a] [hb : OneV b] [hc : OneV c] [hd : OneV d] [he : OneV e] [hf : OneV f] : Row [a, b, c, d, e, f] 6 := Row.mk' rfl (by simp [ha.one, hb.one, hc.one, hd.one, he.one, hf.one]) (by omega)
instance Row.u12 (x : { l : List UInt8 // l.length = 12 }) : Row (u8s x.1) 12 := Row.mk' (by rw [u8s_length, x.2]) (u8s_one _) (by omega)
instance Row.u32 (x : { l : List UInt8 // l.length = 32 }) : Row (u8s x.1) 32 := Row.mk' (by rw [u8s_length, x.2]) (u8s_one _) (by omega)
instance Row.u64 (x : { l : List UInt8 // l.length = 64 }) : Row (u8s x.1) 64 := Row.mk' (by rw [u8s_length, x.2]) (u8s_one _) (by omega)
instance Row.zeros (n : Nat) [h : Tiny n] : Row (u8s (zeros n)) n := Row.mk' (by rw [u8s_length, zeros_length]) (u8s_one _) h.le
instance : Tiny 1 := ⟨by omega⟩
instance : Tiny 2 := ⟨by omega⟩
instance : Tiny 3 := ⟨by omega⟩
instance : Tiny 4 := ⟨by omega⟩
instance : Tiny 5 := ⟨by omega⟩
instance : Tiny 6 := ⟨by omega⟩
instance : Tiny 7 := ⟨by omega⟩
instance : Tiny 8 := ⟨by omega⟩
instance : Tiny 10 := ⟨by omega⟩
instance : Tiny 11 := ⟨by omega⟩
instance : Tiny 12 := ⟨by omega⟩
instance : Tiny 16 := ⟨by omega⟩
instance : Tiny 20 := ⟨by omega⟩
instance : Tiny 24 := ⟨by omega⟩
instance : Tiny 28 := ⟨by omega⟩
instance : Tiny 32 := ⟨by omega⟩
instance : Tiny 40 := ⟨by omega⟩
instance : Tiny 48 := ⟨by omega⟩
instance : Tiny 56 := ⟨by omega⟩
instance : Tiny 64 := ⟨by omega⟩
instance : Tiny 100 := ⟨by omega⟩
instance : Tiny 128 := ⟨by omega⟩
instance Row.rep (n : Nat) (v : Value) [hv : OneV v] [h : Tiny n] : Row (List.replicate n v) n := Row.mk' (by simp) (by intro u hu; rw [List.eq_of_mem_replicate hu]; exact hv.one) h.le

/-- Cell i, so many cells from a place on; the same set. -/
class Cell (xs : List Value) (i : Nat) (v : outParam Value) : Prop where
  eq : xs[i]? = some v
class Part (xs : List Value) (off n : Nat) (ys : outParam (List Value)) : Prop where
  eq : (xs.drop off).take n = ys
  le : off + n ≤ xs.length
class Put1 (xs : List Value) (i : Nat) (v : Value) (xs' : outParam (List Value)) : Prop where
  eq : xs.set i v = xs'
  lt : i < xs.length
class PutN (xs : List Value) (off : Nat) (ys : List Value) (xs' : outParam (List Value)) : Prop where
  eq : xs.take off ++ ys ++ xs.drop (off + ys.length) = xs'
  le : off + ys.length ≤ xs.length
instance Cell.c0 (a : Value) (xs : List Value) : Cell (a :: xs) 0 a := ⟨rfl⟩
instance Cell.c1 (a b : Value) (xs : List Value) : Cell (a :: b :: xs) 1 b := ⟨rfl⟩
instance Cell.c2 (a b c : Value) (xs : List Value) : Cell (a :: b :: c :: xs) 2 c := ⟨rfl⟩
instance Cell.c3 (a b c d : Value) (xs : List Value) : Cell (a :: b :: c :: d :: xs) 3 d := ⟨rfl⟩
instance Cell.c4 (a b c d e : Value) (xs : List Value) : Cell (a :: b :: c :: d :: e :: xs) 4 e := ⟨rfl⟩
instance Cell.c5 (a b c d e f : Value) (xs : List Value) : Cell (a :: b :: c :: d :: e :: f :: xs) 5 f := ⟨rfl⟩
instance Put1.c0 (a v : Value) (xs : List Value) : Put1 (a :: xs) 0 v (v :: xs) := ⟨rfl, by simp⟩
instance Put1.c1 (a b v : Value) (xs : List Value) : Put1 (a :: b :: xs) 1 v (a :: v :: xs) := ⟨rfl, by simp⟩
instance Put1.c2 (a b c v : Value) (xs : List Value) : Put1 (a :: b :: c :: xs) 2 v (a :: b :: v :: xs) := ⟨rfl, by simp⟩
instance Put1.c3 (a b c d v : Value) (xs : List Value) : Put1 (a :: b :: c :: d :: xs) 3 v (a :: b :: c :: v :: xs) := ⟨rfl, by simp⟩
instance Put1.c4 (a b c d e v : Value) (xs : List Value) : Put1 (a :: b :: c :: d :: e :: xs) 4 v (a :: b :: c :: d :: v :: xs) := ⟨rfl, by simp⟩
instance Put1.c5 (a b c d e f v : Value) (xs : List Value) : Put1 (a :: b :: c :: d :: e :: f :: xs) 5 v (a :: b :: c :: d :: e :: v :: xs) := ⟨rfl, by simp⟩
instance (priority := low) Part.all (xs : List Value) (n : Nat) [h : Row xs n] : Part xs 0 n xs := ⟨by rw [List.drop_zero, List.take_of_length_le (by rw [h.len]; exact Nat.le_refl _)], by rw [h.len]; omega⟩
instance (priority := low) PutN.all (xs ys : List Value) (n : Nat) [h : Row xs n] [k : Row ys n] : PutN xs 0 ys ys := ⟨by rw [List.take_zero, List.nil_append, List.drop_eq_nil_of_le (by rw [h.len, k.len]; omega), List.append_nil], by rw [h.len, k.len]; omega⟩

/-! ### An operation, run -/
def Runs (P : Program) (ρ : Operand → Value) (o : Oper) (w : World) (R : Value → World → Prop) : Prop :=
  (∀ c, o.op ≠ .defer c) ∧ o.about P w ρ = none ∧ ∃ v w', ((execOp ρ o).run P w = .ok (.value v) w' ∨ ((execOp ρ o).run P w = .ok .skip w' ∧ v = undef)) ∧ R v w'
/-- An operation that makes a value and leaves the world alone. -/
def Reads (P : Program) (ρ : Operand → Value) (o : Oper) (w : World) (v : Value) : Prop :=
  (∀ c, o.op ≠ .defer c) ∧ o.about P w ρ = none ∧ (execOp ρ o).run P w = .ok (.value v) w
theorem wl_reads {P : Program} {ops : Array Oper} {rest : List Oper} {o : Oper} {a : Act} {w : World} {Q : Exit → Act → World → Prop} {v : Value} (hgd : Region.wanted o (yielded ops a.tmps) = true) (hr : Reads P a.eval o w v)
    (hk : wpList P ops Q rest (a.put o.dst v) w) : wpList P ops Q (o :: rest) a w := wl_op hgd hr.2.2 hk
theorem wi_reads {F : Fence} {fn : Nat} {P : Program} {ops : Array Oper} {rest : List Oper} {o : Oper} {a : Act} {w : World} {Q : Exit → Act → World → Prop} {v : Value} (hgd : Region.wanted o (yielded ops a.tmps) = true) (hr : Reads P a.eval o w v)
    (hk : wpListIn F fn P ops Q rest (a.put o.dst v) w) : wpListIn F fn P ops Q (o :: rest) a w := wi_op hgd hr.1 hr.2.1 hr.2.2 hk
theorem op_reads (d : Option Tmp) {P : Program} {o : Oper} {a : Act} {w : World} {K : Act → World → Prop} {Q : Exit → Act → World → Prop} {v : Value} (hd : o.dst = d) (hr : Reads P a.eval o w v) (hk : K (a.put d v) w) : o.wp P a w K Q := by subst hd; exact op_wp_value hr.2.2 hk
theorem wl_runs {P : Program} {ops : Array Oper} {rest : List Oper} {o : Oper} {a : Act} {w : World} {Q : Exit → Act → World → Prop} {R : Value → World → Prop} (hgd : Region.wanted o (yielded ops a.tmps) = true) (hr : Runs P a.eval o w R)
    (hk : ∀ v w', R v w' → wpList P ops Q rest (a.put o.dst v) w') : wpList P ops Q (o :: rest) a w := by
  obtain ⟨_, _, v, w', h | ⟨h, rfl⟩, hR⟩ := hr
  · exact wl_op hgd h (hk _ _ hR)
  · exact wl_skip hgd h (hk _ _ hR)
theorem wi_runs {F : Fence} {fn : Nat} {P : Program} {ops : Array Oper} {rest : List Oper} {o : Oper} {a : Act} {w : World} {Q : Exit → Act → World → Prop} {R : Value → World → Prop} (hgd : Region.wanted o (yielded ops a.tmps) = true) (hr : Runs P a.eval o w R)
    (hk : ∀ v w', R v w' → wpListIn F fn P ops Q rest (a.put o.dst v) w') : wpListIn F fn P ops Q (o :: rest) a w := by
  obtain ⟨h1, h2, v, w', h | ⟨h, rfl⟩, hR⟩ := hr
  · exact wi_op hgd h1 h2 h (hk _ _ hR)
  · exact wi_skip hgd h1 h2 h (hk _ _ hR)
theorem op_runs (d : Option Tmp) {P : Program} {o : Oper} {a : Act} {w : World} {K : Act → World → Prop} {Q : Exit → Act → World → Prop} {R : Value → World → Prop} (hd : o.dst = d) (hr : Runs P a.eval o w R) (hk : ∀ v w', R v w' → K (a.put d v) w') : o.wp P a w K Q := by
  subst hd
  obtain ⟨_, _, v, w', h | ⟨h, rfl⟩, hR⟩ := hr
  · exact op_wp_value h (hk _ _ hR)
  · unfold Oper.wp
    rw [h]
    exact hk _ _ hR

section
variable {P : Program} {S : Nat → Prop} {w0 w : World} {L F : List Ent} {ρ : Operand → Value} {o : Oper}

theorem ex_alloc (h : St S w0 w L) (ty : TypeId) (ho : o.op = .alloc ty) {zs : List Value} [k : Zer P ty zs] :
    Runs P ρ o w fun v w' => ∃ g, v = .pointer (some ⟨g, 0, none⟩) ∧ St S w0 w' (eBlk g ty zs :: L) := by
  obtain ⟨z, hz, hc⟩ := k.eq
  have hb : Blk (w.alloc (.cells z.cells ty)) w.heap.size ty zs.toArray := by rw [← hc]; exact Blk.new w ty z.cells
  refine ⟨by simp [ho], by simp [Oper.about, ho], _, _, .inl ?_, w.heap.size, rfl, h.add ((Step.refl _ _).alloc _) (eBlk w.heap.size ty zs) hb (fun k hk => Nat.le_of_eq (show k = w.heap.size from hk).symm) (fun _ hk => hk)⟩
  unfold execOp
  simp only [ho, Sem.run_bind, Sem.run_pure, Result.andThen_ok, run_alloc_var hz]

theorem ex_box (h : St S w0 w L) (ty : TypeId) (x : Operand) (ho : o.op = .box ty x) (xs : List Value) (hx : ρ x = .agg xs.toArray) :
    Runs P ρ o w fun v w' => ∃ g, v = .pointer (some ⟨g, 0, none⟩) ∧ St S w0 w' (eBlk g ty xs :: L) := by
  have hb : Blk (w.alloc (.cells xs.toArray ty)) w.heap.size ty xs.toArray := Blk.new w ty _
  refine ⟨by simp [ho], by simp [Oper.about, ho], _, _, .inl ?_, w.heap.size, rfl, h.add ((Step.refl _ _).alloc _) (eBlk w.heap.size ty xs) hb (fun k hk => Nat.le_of_eq (show k = w.heap.size from hk).symm) (fun _ hk => hk)⟩
  unfold execOp
  simp only [ho, hx, Instr.box, newVar, newRow, Sem.run_bind, Sem.run_pure, Result.andThen_ok, run_newObj, Value.cells]
  rfl
theorem ex_box1 (h : St S w0 w L) (ty : TypeId) (x : Operand) (ho : o.op = .box ty x) (u : Value) (hx : ρ x = u) [k : OneV u] :
    Runs P ρ o w fun v w' => ∃ g, v = .pointer (some ⟨g, 0, none⟩) ∧ St S w0 w' (eBlk g ty [u] :: L) := by
  have hb : Blk (w.alloc (.cells #[u] ty)) w.heap.size ty [u].toArray := Blk.new w ty _
  refine ⟨by simp [ho], by simp [Oper.about, ho], _, _, .inl ?_, w.heap.size, rfl, h.add ((Step.refl _ _).alloc _) (eBlk w.heap.size ty [u]) hb (fun k hk => Nat.le_of_eq (show k = w.heap.size from hk).symm) (fun _ hk => hk)⟩
  unfold execOp
  simp only [ho, hx, Instr.box, newVar, newRow, Sem.run_bind, Sem.run_pure, Result.andThen_ok, run_newObj, k.cells]
  rfl

theorem ex_load (h : St S w0 w L) (ty : TypeId) (x : Operand) (ho : o.op = .load ty x) (g off : Nat) (hx : ρ x = .pointer (some ⟨g, off, none⟩)) {n : Nat} {t : TypeId} {xs ys : List Value}
    [ka : Agg P ty] [ks : Siz P ty n] [kb : SlotB L g t xs F] [kp : Part xs off n ys] :
    Reads P ρ o w (.agg ys.toArray) := by
  have hb := h.blk g (k := kb)
  obtain ⟨d, hd, hr⟩ := ka.eq
  have hl : ys.length = n := by
    have := kp.le
    rw [← kp.eq, List.length_take, List.length_drop]
    omega
  have hc : Cells w g off ys := hb.part (by rw [hl]; exact kp.eq)
  refine ⟨by simp [ho], by simp [Oper.about, ho], ?_⟩
  unfold execOp
  simp only [ho, hx, Instr.loadAt, Instr.sureAddr, Sem.run_bind, Sem.run_pure, Result.andThen_ok, run_loadVar_mid w g off ty ys d hc hd hr (by rw [ks.eq, hl])]

/-- A load of cells that stand wherever. -/
theorem ex_load_at (ty : TypeId) (x : Operand) (ho : o.op = .load ty x) (g off : Nat) (hx : ρ x = .pointer (some ⟨g, off, none⟩)) {n : Nat} (ys : List Value) [ka : Agg P ty] [ks : Siz P ty n] (hl : ys.length = n) (hc : Cells w g off ys) :
    Reads P ρ o w (.agg ys.toArray) := by
  obtain ⟨d, hd, hr⟩ := ka.eq
  refine ⟨by simp [ho], by simp [Oper.about, ho], ?_⟩
  unfold execOp
  simp only [ho, hx, Instr.loadAt, Instr.sureAddr, Sem.run_bind, Sem.run_pure, Result.andThen_ok, run_loadVar_mid w g off ty ys d hc hd hr (by rw [ks.eq, hl])]

theorem ex_load1_at (ty : TypeId) (x : Operand) (ho : o.op = .load ty x) (g off : Nat) (hx : ρ x = .pointer (some ⟨g, off, none⟩)) [ka : One P ty] (u : Value) (hc : w.cell? ⟨g, off, none⟩ = some u) :
    Reads P ρ o w (u) := by
  obtain ⟨d, hd, hr⟩ := ka.eq
  refine ⟨by simp [ho], by simp [Oper.about, ho], ?_⟩
  unfold execOp
  simp only [ho, hx, Instr.loadAt, Instr.sureAddr, Sem.run_bind, Sem.run_pure, Result.andThen_ok, load_one hd hr hc]
theorem St.cellAt (h : St S w0 w L) (g i : Nat) {t : TypeId} {xs : List Value} {v : Value} [kb : SlotB L g t xs F] (hv : xs[i]? = some v) : w.cell? ⟨g, i, none⟩ = some v := by
  have hb := h.blk g (k := kb)
  rw [hb.cell, List.getElem?_toArray]
  exact hv
theorem ex_load1 (h : St S w0 w L) (ty : TypeId) (x : Operand) (ho : o.op = .load ty x) (g off : Nat) (hx : ρ x = .pointer (some ⟨g, off, none⟩)) {t : TypeId} {xs : List Value} {u : Value}
    [ka : One P ty] [kb : SlotB L g t xs F] [kc : Cell xs off u] : Reads P ρ o w (u) :=
  ex_load1_at ty x ho g off hx u (h.cellAt g off (kb := kb) kc.eq)

theorem ex_store (h : St S w0 w L) (ty : TypeId) (x y : Operand) (ho : o.op = .store ty x y) (g off : Nat) (hx : ρ x = .pointer (some ⟨g, off, none⟩)) (ys : List Value) (hy : ρ y = .agg ys.toArray) {n : Nat} {t : TypeId} {xs xs' : List Value}
    [ks : Siz P ty n] [kr : Row ys n] [kb : SlotB L g t xs F] [kp : PutN xs off ys xs'] :
    Runs P ρ o w fun v w' => v = undef ∧ St S w0 w' (eBlk g t xs' :: F) := by
  have hb := h.blk g (k := kb)
  obtain ⟨w', hrun, hb', hs', _⟩ := op_store (P := P) w ty x y ho g off hx (.agg ys.toArray) ys hy rfl (by rw [ks.eq, kr.len]) kr.one t _ hb (by simpa using kp.le)
  have hb2 : Blk w' g t xs'.toArray := by
    have e := kp.eq
    simp only [List.append_assoc] at e
    simpa [e] using hb'
  exact ⟨by simp [ho], by simp [Oper.about, ho], _, _, .inr ⟨hrun, rfl⟩, rfl, h.set (k := ⟨kb.perm⟩) (eBlk g t xs') hs' hb2 (fun k hk => .inl hk) (fun _ hk => hk)⟩

/-- One cell stored, at whatever place. -/
theorem ex_store1_at (h : St S w0 w L) (ty : TypeId) (x y : Operand) (ho : o.op = .store ty x y) (g off : Nat) (hx : ρ x = .pointer (some ⟨g, off, none⟩)) (u : Value) (hy : ρ y = u) {t : TypeId} {xs : List Value}
    [ks : One P ty] [kv : OneV u] [kb : SlotB L g t xs F] (hlt : off < xs.length) :
    Runs P ρ o w fun v w' => v = undef ∧ St S w0 w' (eBlk g t (xs.set off u) :: F) := by
  have hb := h.blk g (k := kb)
  obtain ⟨w', hrun, hb', hs', _⟩ := op_store (P := P) w ty x y ho g off hx u [u] hy kv.cells ks.siz (by simp [kv.one]) t _ hb (by simp; omega)
  have hb2 : Blk w' g t (xs.set off u).toArray := by
    rw [List.set_eq_take_append_cons_drop, if_pos hlt]
    simpa using hb'
  exact ⟨by simp [ho], by simp [Oper.about, ho], _, _, .inr ⟨hrun, rfl⟩, rfl, h.set (k := ⟨kb.perm⟩) (eBlk g t (xs.set off u)) hs' hb2 (fun k hk => .inl hk) (fun _ hk => hk)⟩
theorem ex_store1 (h : St S w0 w L) (ty : TypeId) (x y : Operand) (ho : o.op = .store ty x y) (g off : Nat) (hx : ρ x = .pointer (some ⟨g, off, none⟩)) (u : Value) (hy : ρ y = u) {t : TypeId} {xs xs' : List Value}
    [ks : One P ty] [kv : OneV u] [kb : SlotB L g t xs F] [kp : Put1 xs off u xs'] :
    Runs P ρ o w fun v w' => v = undef ∧ St S w0 w' (eBlk g t xs' :: F) := by
  have := ex_store1_at (P := P) h ty x y ho g off hx u hy (kb := kb) kp.lt
  rwa [kp.eq] at this

/-- append onto a row of one's own. -/
theorem ex_append (h : St S w0 w L) (s x : Operand) (t : TypeId) (ho : o.op = .call { callee := .builtin .append, args := #[s, x], argTypes := #[t, t] }) {e : TypeId} {sz bytes : Nat} [ke : Elm P t e sz bytes]
    (A : Option Addr) {n c : Nat} {xs : List Value} (hs : ρ s = .slice A n c) [ko : SlotO L A e sz n c xs F] (B : Option Addr) (m d : Nat) (hx : ρ x = .slice B m d) {ys : List Value} (hr : Sl w B m d sz ys) (h1 : ∀ u ∈ ys, u.oneCell' = true)
    (h63 : n + m ≤ maxLen) (hbytes : (n + m) * bytes ≤ 140737488355328) :
    Runs P ρ o w fun v w' => ∃ A' c', v = .slice A' (n + m) c' ∧ St S w0 w' (eOwn e sz A' (n + m) c' (xs ++ ys) :: F) := by
  obtain ⟨i, z, hi, hz, hsize, hby, hzs⟩ := ke.info
  have hown := h.row A (k := ko)
  obtain ⟨A', c', w', hrun, h2, h3, h4⟩ := run_append_tl (P := P) (w := w) t t o.type e i z sz bytes ke.und (.inl ke.und) hi hz hsize hby hzs ke.pos A n c xs hown (.slice B m d) m ys hr.len (src_len B m d) (src_cells hr) (src_cells hr.drew) h1 h63 hbytes
  refine ⟨by simp [ho], by simp [Oper.about, ho, resolve, Target.leads], .slice A' (n + m) c', w', .inl ?_, A', c', rfl, h.set (k := ⟨ko.perm⟩) (eOwn e sz A' (n + m) c' (xs ++ ys)) h3 h2 h4 (fun _ hk => hk)⟩
  unfold execOp
  simp only [ho, resolve, invoke, builtin, Sem.run_bind, Sem.run_pure, Result.andThen_ok, List.map_toArray, List.map_cons, List.map_nil, hs, hx, hrun]
/-- append onto nil. -/
theorem ex_append_nil (h : St S w0 w L) (s x : Operand) (t : TypeId) (ho : o.op = .call { callee := .builtin .append, args := #[s, x], argTypes := #[t, t] }) {e : TypeId} {sz bytes : Nat} [ke : Elm P t e sz bytes]
    (hs : ρ s = .slice none 0 0) (B : Option Addr) (m d : Nat) (hx : ρ x = .slice B m d) {ys : List Value} (hr : Sl w B m d sz ys) (h1 : ∀ u ∈ ys, u.oneCell' = true)
    (h63 : m ≤ maxLen) (hbytes : m * bytes ≤ 140737488355328) :
    Runs P ρ o w fun v w' => ∃ A' c', v = .slice A' m c' ∧ St S w0 w' (eOwn e sz A' m c' ys :: L) := by
  obtain ⟨i, z, hi, hz, hsize, hby, hzs⟩ := ke.info
  obtain ⟨A', c', w', hrun, h2, h3, h4⟩ := run_append (P := P) w t o.type e i z sz bytes ke.und hi hz hsize hby hzs ke.pos none 0 0 [] (Own.nil _ _ _) B m d ys hr h1 (by omega) (by simpa using hbytes)
  rw [Nat.zero_add, List.nil_append] at h2
  rw [Nat.zero_add] at hrun
  refine ⟨by simp [ho], by simp [Oper.about, ho, resolve, Target.leads], .slice A' m c', w', .inl ?_, A', c', rfl, h.add (h3.mono fun k _ hk => at_nil hk) (eOwn e sz A' m c' ys) (Own.tl h2) (fun k hk => (h4 k hk).resolve_left at_nil) (fun _ hk => hk)⟩
  unfold execOp
  simp only [ho, resolve, invoke, builtin, Sem.run_bind, Sem.run_pure, Result.andThen_ok, List.map_toArray, List.map_cons, List.map_nil, hs, hx, hrun]
theorem ex_append_str (h : St S w0 w L) (s x : Operand) (t u : TypeId) (ho : o.op = .call { callee := .builtin .append, args := #[s, x], argTypes := #[t, u] }) {e : TypeId} [ke : Elm P t e 1 1] (hu : P.underlying u = some .string)
    (A : Option Addr) {n c : Nat} {xs : List Value} (hs : ρ s = .slice A n c) [ko : SlotO L A e 1 n c xs F] (l : List UInt8) (hx : ρ x = .string (str l)) (h63 : n + l.length ≤ maxLen) (hbytes : n + l.length ≤ 140737488355328) :
    Runs P ρ o w fun v w' => ∃ A' c', v = .slice A' (n + l.length) c' ∧ St S w0 w' (eOwn e 1 A' (n + l.length) c' (xs ++ u8s l) :: F) := by
  obtain ⟨i, z, hi, hz, hsize, hby, hzs⟩ := ke.info
  have hown := h.row A (k := ko)
  obtain ⟨A', c', w', hrun, h2, h3, h4⟩ := run_append_tl (P := P) (w := w) t u o.type e i z 1 1 ke.und (.inr hu) hi hz hsize hby hzs ke.pos A n c xs hown (.string (str l)) l.length (u8s l) (by rw [u8s_length, Nat.mul_one]) (src_str_len l) (src_str_cells l w) (src_str_cells l w.drew) (u8s_one l) h63 (by rw [Nat.mul_one]; exact hbytes)
  refine ⟨by simp [ho], by simp [Oper.about, ho, resolve, Target.leads], .slice A' (n + l.length) c', w', .inl ?_, A', c', rfl, h.set (k := ⟨ko.perm⟩) (eOwn e 1 A' (n + l.length) c' (xs ++ u8s l)) h3 h2 h4 (fun _ hk => hk)⟩
  unfold execOp
  simp only [ho, resolve, invoke, builtin, Sem.run_bind, Sem.run_pure, Result.andThen_ok, List.map_toArray, List.map_cons, List.map_nil, hs, hx, hrun]

/-- make([]T, n). -/
theorem ex_make (h : St S w0 w L) (l c : Operand) (t : TypeId) (ho : o.op = .makeSlice t l c) {e : TypeId} {sz bytes : Nat} [ke : Elm P t e sz bytes] (n : Nat) (hl : ρ l = .int .i64 (n : Int)) (hc : ρ c = .int .i64 (n : Int)) (hb : bytes * n ≤ 281474976710656) (h63 : n ≤ maxLen)
    (zs : List Value) (hz : ∀ z, (P.info? e).map (·.zero) = some (some z) → (madeCells z.cells (n * sz)).toList = zs) :
    Runs P ρ o w fun v w' => ∃ g, v = .slice (some ⟨g, 0, none⟩) n n ∧ St S w0 w' (eOwn e sz (some ⟨g, 0, none⟩) n n zs :: L) := by
  obtain ⟨i, z, hi, hz0, hsize, hby, hzs⟩ := ke.info
  obtain ⟨w', hrun, h2, h3⟩ := run_make_full (P := P) (w := w) w.heap.size t e i z sz ke.und hi hz0 hsize .i64 .i64 n (by rw [hby]; exact hb) h63 (Nat.le_refl _)
  have hown : Own w' e sz (some ⟨w.heap.size, 0, none⟩) n n zs := by
    rw [← hz z (by rw [hi, Option.map_some, hz0])]
    refine ⟨h2.1, ?_⟩
    rcases h2.2 with ⟨h4, _⟩ | ⟨g, cap, cur, h4, _, h5⟩
    · cases h4
    · exact .inr ⟨g, cap, cur, h4, Nat.zero_le _, h5⟩
  refine ⟨by simp [ho], by simp [Oper.about, ho], .slice (some ⟨w.heap.size, 0, none⟩) n n, w', .inl ?_, w.heap.size, rfl, h.add ⟨h3.os, h3.tape, h3.output, h3.size, fun k hk _ => h3.block k hk (by simp)⟩ (eOwn e sz (some ⟨w.heap.size, 0, none⟩) n n zs) (Own.tl hown) (fun k ⟨a, ha, hk⟩ => by cases ha; exact Nat.le_of_eq hk) (fun _ hk => hk)⟩
  unfold execOp
  simp only [ho, hl, hc, hrun, Sem.run_bind, Sem.run_pure, Result.andThen_ok]

/-- string(b). -/
theorem ex_string (x : Operand) (src dst : TypeId) (ho : o.op = .convert src dst x) {e : TypeId} {sz bytes : Nat} [ke : Elm P src e sz bytes] (he : P.underlying e = some (.int .u8)) (hd : P.underlying dst = some .string) (A : Option Addr) (n c : Nat) (hx : ρ x = .slice A n c) {l : List UInt8} (hl : Sl w A n c 1 (u8s l)) :
    Reads P ρ o w (.string (str l)) := by
  refine ⟨by simp [ho], by simp [Oper.about, ho], ?_⟩
  unfold execOp
  simp only [ho, hx, Sem.run_bind, Sem.run_pure, Result.andThen_ok, run_bytes_string0 (P := P) ke.und he hd hl]
end

/-- A slice got anew (not for appending). -/
def eGot (A : Option Addr) (n c sz : Nat) (xs : List Value) : Ent where
  own k := Ft A n k
  rd _ := False
  holds w := 0 < sz ∧ Sl w A n c sz xs
  isC := true
  lt h k hk := by rcases hk with hk | hk; exact h.2.ft_lt h.1 hk; exact hk.elim
  keep h hs hd := ⟨h.1, h.2.step hs (fun k hk => hd k (.inl hk))⟩
  cel e w h k hk o ho := (eSl A n c sz xs).cel rfl (w := w) h k (.inr (hk.resolve_right id)) o ho
instance (priority := high) HasSl.got (A : Option Addr) (n c sz : Nat) (xs : List Value) (L : List Ent) : HasSl (eGot A n c sz xs :: L) A n c sz xs := ⟨fun w h => (h (eGot A n c sz xs) List.mem_cons_self).2⟩
instance NoRd.got (A : Option Addr) (n c sz : Nat) (xs : List Value) (L : List Ent) [h : NoRd L] : NoRd (eGot A n c sz xs :: L) := ⟨fun x hx k hk => by
  rcases List.mem_cons.1 hx with rfl | hx
  · exact hk
  · exact h.no x hx k hk⟩
section
variable {P : Program} {S : Nat → Prop} {w0 w : World} {L F : List Ent} {ρ : Operand → Value} {o : Oper}
/-- []byte(s). -/
theorem ex_bytes (h : St S w0 w L) (x : Operand) (src dst : TypeId) (ho : o.op = .convert src dst x) (hs : P.underlying src = some .string) {e : TypeId} {sz bytes : Nat} [ke : Elm P dst e sz bytes] (he : P.underlying e = some (.int .u8)) (l : List UInt8) (hx : ρ x = .string (str l)) (hl : l.length ≤ maxLen) :
    Runs P ρ o w fun v w' => ∃ g c, v = .slice (some ⟨g, 0, none⟩) l.length c ∧ St S w0 w' (eGot (some ⟨g, 0, none⟩) l.length c 1 (u8s l) :: L) := by
  obtain ⟨c', w', hrun, h1, h2, h3⟩ := run_string_bytes (P := P) (w := w) src dst e l hs ke.und he hl
  refine ⟨by simp [ho], by simp [Oper.about, ho], _, w', .inl ?_, w.heap.size, c', rfl, h.add h2 (eGot (some ⟨w.heap.size, 0, none⟩) l.length c' 1 (u8s l)) ⟨by omega, h1⟩ (fun k hk => by
    obtain ⟨_, a, ha, rfl⟩ := hk
    cases ha
    exact Nat.le_refl _) (fun _ hk => hk)⟩
  unfold execOp
  simp only [ho, hx, Sem.run_bind, Sem.run_pure, Result.andThen_ok, hrun]

theorem ex_build (t : TypeId) (parts : Array (Nat × Operand)) (ho : o.op = .build t parts) (cells : Array Value) (hb : P.built t (parts.map fun (i, x) => (i, ρ x)).toList = some cells) :
    Reads P ρ o w (.agg cells) := by
  refine ⟨by simp [ho], by simp [Oper.about, ho], ?_⟩
  unfold execOp
  simp only [ho, Sem.run_bind, run_build w t _ cells hb, Result.andThen_ok, Sem.run_pure]
/-- The zero of an array or a struct. -/
theorem ex_zero (t : TypeId) (ho : o.op = .build t #[]) (zs : List Value) (hb : P.built t [] = some zs.toArray) :
    Reads P ρ o w (.agg zs.toArray) := by
  refine ⟨by simp [ho], by simp [Oper.about, ho], ?_⟩
  unfold execOp
  simp only [ho, Sem.run_bind, List.map_toArray, List.map_nil, run_build w t _ _ hb, Result.andThen_ok, Sem.run_pure]

/-- What a result's cell holds. -/
theorem St.loadVar (h : St S w0 w L) (ty : TypeId) (g off : Nat) {n : Nat} {t : TypeId} {xs ys : List Value} [ka : Agg P ty] [ks : Siz P ty n] [kb : SlotB L g t xs F] [kp : Part xs off n ys] : (Go.loadVar ty ⟨g, off, none⟩).run P w = .ok (.agg ys.toArray) w := by
  have hb := h.blk g (k := kb)
  obtain ⟨d, hd, hr⟩ := ka.eq
  have hl : ys.length = n := by
    have := kp.le
    rw [← kp.eq, List.length_take, List.length_drop]
    omega
  have hc : Cells w g off ys := hb.part (by rw [hl]; exact kp.eq)
  exact run_loadVar_mid w g off ty ys d hc hd hr (by rw [ks.eq, hl])
theorem St.loadVar1 (h : St S w0 w L) (ty : TypeId) (g off : Nat) {t : TypeId} {xs : List Value} {u : Value} [ka : One P ty] [kb : SlotB L g t xs F] [kc : Cell xs off u] : (Go.loadVar ty ⟨g, off, none⟩).run P w = .ok u w := by
  obtain ⟨d, hd, hr⟩ := ka.eq
  exact load_one hd hr (h.cellAt g off (kb := kb) kc.eq)
end
end Go.Proofs.Ytionnlckjjojnaa
namespace Go.Proofs.Ytionnlckjjojnaa
open Go.RowKit
set_option linter.unusedVariables false

theorem fill_fold (off : Nat) : ∀ (ys : List Value) (k : Nat) (cs : Array Value), off + k + ys.length ≤ cs.size →
    ((ys.zipIdx k).foldl (fun (cs : Array Value) (p : Value × Nat) => cs.setIfInBounds (off + p.2) p.1) cs).toList = cs.toList.take (off + k) ++ ys ++ cs.toList.drop (off + k + ys.length)
  | [], k, cs, h => by simp
  | y :: ys, k, cs, h => by
    have hl : off + k < cs.toList.length := by simp at h ⊢; omega
    rw [List.zipIdx_cons, List.foldl_cons, fill_fold off ys (k + 1) _ (by simp at h ⊢; omega), Array.toList_setIfInBounds, List.set_eq_take_append_cons_drop, if_pos hl]
    dsimp only
    have h1 : (cs.toList.take (off + k)).length = off + k := by rw [List.length_take]; omega
    rw [show off + (k + 1) = (cs.toList.take (off + k)).length + 1 by omega, List.take_append, List.take_of_length_le (by omega), Nat.add_sub_cancel_left, List.take_succ_cons, List.take_zero, List.length_cons]
    rw [show (cs.toList.take (off + k)).length + 1 + ys.length = (cs.toList.take (off + k)).length + (ys.length + 1) by omega, List.drop_append, List.drop_eq_nil_of_le (by omega), Nat.add_sub_cancel_left, List.drop_succ_cons, List.drop_drop, List.nil_append]
    rw [show off + k + (ys.length + 1) = off + k + 1 + ys.length by omega]
    simp [List.append_assoc]

/-- One part of a composite literal. -/
theorem fill_one {place : Nat → Option (Nat × Nat)} {xs ys xs' : List Value} {i off n : Nat} {v : Value} {rest : List (Nat × Value)} (hp : place i = some (off, n)) (hv : v.cells = ys.toArray) (hn : ys.length = n) (hx : PutN xs off ys xs') :
    Instr.fill place xs.toArray ((i, v) :: rest) = Instr.fill place xs'.toArray rest := by
  have hle := hx.le
  have hf := fill_fold off ys 0 xs.toArray (by simpa using hle)
  have e : (v.cells.zipIdx.foldl (fun (cs : Array Value) (p : Value × Nat) => cs.setIfInBounds (off + p.2) p.1) xs.toArray) = xs'.toArray := by
    rw [hv]
    apply Array.toList_inj.1
    rw [Array.zipIdx_toArray, List.foldl_toArray]
    simp only [Nat.add_zero] at hf
    rw [hf]
    have := hx.eq
    simpa using this
  have hs : v.cells.size = n := by rw [hv, List.size_toArray, hn]
  simp only [Instr.fill, hp, hs, List.size_toArray]
  rw [if_neg (by simp; omega)]
  exact congrArg (fun cs => Instr.fill place cs rest) e

/-- Where the fields of a struct stand. -/
class Places (P : Program) (t : TypeId) (pl : outParam (List (Nat × Nat))) (zs : outParam (List Value)) : Prop where
  eq : ∀ parts, P.built t parts = Instr.fill (pl.toArray[·]?) zs.toArray parts
class PlaceAt (pl : List (Nat × Nat)) (i : Nat) (off n : outParam Nat) : Prop where
  eq : pl[i]? = some (off, n)
instance (a b : Nat) (l : List (Nat × Nat)) : PlaceAt ((a, b) :: l) 0 a b := ⟨rfl⟩
instance (a b : Nat) (x0 : Nat × Nat) (l : List (Nat × Nat)) : PlaceAt (x0 :: (a, b) :: l) 1 a b := ⟨rfl⟩
instance (a b : Nat) (x0 x1 : Nat × Nat) (l : List (Nat × Nat)) : PlaceAt (x0 :: x1 :: (a, b) :: l) 2 a b := ⟨rfl⟩
instance (a b : Nat) (x0 x1 x2 : Nat × Nat) (l : List (Nat × Nat)) : PlaceAt (x0 :: x1 :: x2 :: (a, b) :: l) 3 a b := ⟨rfl⟩
instance (a b : Nat) (x0 x1 x2 x3 : Nat × Nat) (l : List (Nat × Nat)) : PlaceAt (x0 :: x1 :: x2 :: x3 :: (a, b) :: l) 4 a b := ⟨rfl⟩
instance (a b : Nat) (x0 x1 x2 x3 x4 : Nat × Nat) (l : List (Nat × Nat)) : PlaceAt (x0 :: x1 :: x2 :: x3 :: x4 :: (a, b) :: l) 5 a b := ⟨rfl⟩
instance (a b : Nat) (x0 x1 x2 x3 x4 x5 : Nat × Nat) (l : List (Nat × Nat)) : PlaceAt (x0 :: x1 :: x2 :: x3 :: x4 :: x5 :: (a, b) :: l) 6 a b := ⟨rfl⟩
instance (a b : Nat) (x0 x1 x2 x3 x4 x5 x6 : Nat × Nat) (l : List (Nat × Nat)) : PlaceAt (x0 :: x1 :: x2 :: x3 :: x4 :: x5 :: x6 :: (a, b) :: l) 7 a b := ⟨rfl⟩
/-- The cells behind the parts. -/
class FillTo (pl : List (Nat × Nat)) (xs : List Value) (parts : List (Nat × Value)) (xs' : outParam (List Value)) : Prop where
  eq : Instr.fill (pl.toArray[·]?) xs.toArray parts = some xs'.toArray
instance FillTo.nil (pl : List (Nat × Nat)) (xs : List Value) : FillTo pl xs [] xs := ⟨rfl⟩
instance FillTo.agg (pl : List (Nat × Nat)) (xs ys xs1 xs2 : List Value) (i off n : Nat) (rest : List (Nat × Value)) [hp : PlaceAt pl i off n] [hr : Row ys n] [hx : PutN xs off ys xs1] [hk : FillTo pl xs1 rest xs2] : FillTo pl xs ((i, .agg ys.toArray) :: rest) xs2 :=
  ⟨(fill_one (ys := ys) (by simpa using hp.eq) rfl hr.len hx).trans hk.eq⟩
theorem PutN.of1 {xs xs' : List Value} {i : Nat} {v : Value} (h : Put1 xs i v xs') : PutN xs i [v] xs' :=
  ⟨by rw [← h.eq, List.set_eq_take_append_cons_drop, if_pos h.lt]; simp, by have := h.lt; simp; omega⟩
instance FillTo.one (pl : List (Nat × Nat)) (xs xs1 xs2 : List Value) (v : Value) (i off : Nat) (rest : List (Nat × Value)) [hp : PlaceAt pl i off 1] [hr : OneV v] [hx : Put1 xs off v xs1] [hk : FillTo pl xs1 rest xs2] : FillTo pl xs ((i, v) :: rest) xs2 :=
  ⟨(fill_one (ys := [v]) (by simpa using hp.eq) hr.cells rfl (.of1 hx)).trans hk.eq⟩

section
variable {P : Program} {S : Nat → Prop} {w0 w : World} {L F : List Ent} {ρ : Operand → Value} {o : Oper}
/-- T{..}: a struct's literal. -/
theorem ex_lit (t : TypeId) (parts : Array (Nat × Operand)) (ho : o.op = .build t parts) (ps : List (Nat × Value)) (hp : parts.toList.map (fun p => (p.1, ρ p.2)) = ps) {pl : List (Nat × Nat)} {zs xs : List Value} [kp : Places P t pl zs] [kf : FillTo pl zs ps xs] :
    Reads P ρ o w (.agg xs.toArray) :=
  ex_build t parts ho xs.toArray (by rw [show (parts.map fun (i, x) => (i, ρ x)).toList = ps by rw [← hp]; simp, kp.eq, kf.eq])

theorem range_size (z : Array Value) (n : Nat) : ((Array.range n).map (z[· % z.size]!)).size = n := by simp
theorem row_split {α : Type} {sz : Nat} (f : α → List Value) (hf : ∀ x, (f x).length = sz) (l : List α) : (l.flatMap f).length = l.length * sz := length_flatMap hf l
/-- The cells of a literal's parts, laid one behind the other. -/
theorem fill_row {sz : Nat} (hsz : 0 < sz) : ∀ (vs : List (Value × List Value)) (k : Nat) (done left : List Value), (∀ p ∈ vs, p.1.cells = p.2.toArray ∧ p.2.length = sz) → done.length = k * sz → left.length = vs.length * sz →
    Instr.fill (fun i => some (i * sz, sz)) (done ++ left).toArray ((vs.zipIdx k).map fun p => (p.2, p.1.1)) = some (done ++ vs.flatMap (·.2)).toArray
  | [], k, done, left, _, _, hl => by
    have : left = [] := List.eq_nil_of_length_eq_zero (by simpa using hl)
    simp [this, Instr.fill]
  | p :: vs, k, done, left, hv, hd, hl => by
    obtain ⟨hp, hp2⟩ := hv p List.mem_cons_self
    rw [List.length_cons, Nat.succ_mul] at hl
    have hx : PutN (done ++ left) (k * sz) p.2 (done ++ p.2 ++ left.drop sz) := ⟨by
      rw [List.take_left' hd, ← hd, List.drop_append, List.drop_eq_nil_of_le (by omega), Nat.add_sub_cancel_left, hp2, List.nil_append], by rw [List.length_append, hd, hp2]; omega⟩
    rw [List.zipIdx_cons, List.map_cons, fill_one (ys := p.2) rfl hp hp2 hx, fill_row hsz vs (k + 1) (done ++ p.2) (left.drop sz) (fun q hq => hv q (List.mem_cons_of_mem _ hq)) (by rw [List.length_append, hd, hp2, Nat.succ_mul]) (by rw [List.length_drop]; omega)]
    simp
/-- []T{..}, all of its elements. -/
theorem ex_sliceN (h : St S w0 w L) (t : TypeId) (len : Nat) (parts : Array (Nat × Operand)) (ho : o.op = .buildSlice t len parts) {e : TypeId} {sz bytes : Nat} [ke : Elm P t e sz bytes] (vs : List (Value × List Value))
    (hp0 : parts.toList.map (fun p => (p.1, ρ p.2)) = (vs.zipIdx 0).map fun p => (p.2, p.1.1)) (hl : vs.length = len) (hv : ∀ p ∈ vs, p.1.cells = p.2.toArray ∧ p.2.length = sz) (hpos : 0 < len) (hsm : len * sz ≤ 16777216) :
    Runs P ρ o w fun v w' => ∃ g, v = .slice (some ⟨g, 0, none⟩) len len ∧ St S w0 w' (eBlk g e (vs.flatMap (·.2)) :: L) := by
  have hp : (parts.map fun (i, x) => (i, ρ x)).toList = (vs.zipIdx 0).map fun p => (p.2, p.1.1) := by rw [← hp0]; simp
  obtain ⟨i, z, hi, hz, hsize, hby, hzs⟩ := ke.info
  have hsz := ke.pos
  have hf := fill_row hsz vs 0 [] ((Array.range (len * sz)).map (z.cells[· % z.cells.size]!)).toList hv (by simp) (by simp [hl])
  rw [List.nil_append, List.nil_append, Array.toArray_toList, ← hp] at hf
  generalize hx : vs.flatMap (·.2) = xs at hf ⊢
  have hb : Blk (w.alloc (.cells xs.toArray e)) w.heap.size e xs.toArray := Blk.new w e _
  have hm := Nat.mul_pos hpos hsz
  refine ⟨by simp [ho], by simp [Oper.about, ho], .slice (some ⟨w.heap.size, 0, none⟩) len len, w.alloc (.cells xs.toArray e), .inl ?_, w.heap.size, rfl, h.add ((Step.refl _ _).alloc _) (eBlk w.heap.size e xs) hb (fun k hk => Nat.le_of_eq (show k = w.heap.size from hk).symm) (fun _ hk => hk)⟩
  unfold execOp
  simp only [ho, Sem.run_bind, run_buildSlice w t e len _ xs.toArray i z ke.und hi hz (by rw [hsize]; omega) (by rw [hsize]; omega) (by rw [hsize]; exact hf), Result.andThen_ok, Sem.run_pure]
/-- []T{x}. -/
theorem ex_slice1 (h : St S w0 w L) (t : TypeId) (x : Operand) (ho : o.op = .buildSlice t 1 #[(0, x)]) {e : TypeId} {sz bytes : Nat} [ke : Elm P t e sz bytes] (xs : List Value) (hx : ρ x = .agg xs.toArray) [kr : Row xs sz] :
    Runs P ρ o w fun v w' => ∃ g, v = .slice (some ⟨g, 0, none⟩) 1 1 ∧ St S w0 w' (eBlk g e xs :: L) := by
  have h := ex_sliceN (P := P) (ρ := ρ) h t 1 #[(0, x)] ho [(.agg xs.toArray, xs)] (by simp [hx]) rfl (by simp [Value.cells, kr.len]) (by omega) (by have := kr.small; omega)
  simpa using h
/-- []T{x}, x of one cell. -/
theorem ex_slice1v (h : St S w0 w L) (t : TypeId) (x : Operand) (ho : o.op = .buildSlice t 1 #[(0, x)]) {e : TypeId} {bytes : Nat} [ke : Elm P t e 1 bytes] (u : Value) (hx : ρ x = u) [kr : OneV u] :
    Runs P ρ o w fun v w' => ∃ g, v = .slice (some ⟨g, 0, none⟩) 1 1 ∧ St S w0 w' (eBlk g e [u] :: L) := by
  have h := ex_sliceN (P := P) (ρ := ρ) h t 1 #[(0, x)] ho [(u, [u])] (by simp [hx]) rfl (by simp [kr.cells]) (by omega) (by omega)
  simpa using h
theorem ex_store1i (h : St S w0 w L) (ty : TypeId) (x y : Operand) (ho : o.op = .store ty x y) (g off : Nat) (hx : ρ x = .pointer (some ⟨g, off, none⟩)) (k : IntKind) (i : Int) (hy : ρ y = .int k i) {t : TypeId} {xs xs' : List Value}
    [ks : One P ty] [kb : SlotB L g t xs F] [kp : Put1 xs off (.int k i) xs'] : Runs P ρ o w fun v w' => v = undef ∧ St S w0 w' (eBlk g t xs' :: F) := ex_store1 (P := P) h ty x y ho g off hx _ hy
theorem ex_box1i (h : St S w0 w L) (ty : TypeId) (x : Operand) (ho : o.op = .box ty x) (k : IntKind) (i : Int) (hx : ρ x = .int k i) : Runs P ρ o w fun v w' => ∃ g, v = .pointer (some ⟨g, 0, none⟩) ∧ St S w0 w' (eBlk g ty [.int k i] :: L) := ex_box1 (P := P) h ty x ho _ hx
theorem ex_slice1i (h : St S w0 w L) (t : TypeId) (x : Operand) (ho : o.op = .buildSlice t 1 #[(0, x)]) {e : TypeId} {bytes : Nat} [ke : Elm P t e 1 bytes] (k : IntKind) (i : Int) (hx : ρ x = .int k i) : Runs P ρ o w fun v w' => ∃ g, v = .slice (some ⟨g, 0, none⟩) 1 1 ∧ St S w0 w' (eBlk g e [.int k i] :: L) := ex_slice1v (P := P) h t x ho _ hx
theorem ex_store1s (h : St S w0 w L) (ty : TypeId) (x y : Operand) (ho : o.op = .store ty x y) (g off : Nat) (hx : ρ x = .pointer (some ⟨g, off, none⟩)) (B : Option Addr) (m d : Nat) (hy : ρ y = .slice B m d) {t : TypeId} {xs xs' : List Value}
    [ks : One P ty] [kb : SlotB L g t xs F] [kp : Put1 xs off (.slice B m d) xs'] : Runs P ρ o w fun v w' => v = undef ∧ St S w0 w' (eBlk g t xs' :: F) := ex_store1 (P := P) h ty x y ho g off hx _ hy
theorem ex_box1s (h : St S w0 w L) (ty : TypeId) (x : Operand) (ho : o.op = .box ty x) (B : Option Addr) (m d : Nat) (hx : ρ x = .slice B m d) : Runs P ρ o w fun v w' => ∃ g, v = .pointer (some ⟨g, 0, none⟩) ∧ St S w0 w' (eBlk g ty [.slice B m d] :: L) := ex_box1 (P := P) h ty x ho _ hx
theorem ex_slice1s (h : St S w0 w L) (t : TypeId) (x : Operand) (ho : o.op = .buildSlice t 1 #[(0, x)]) {e : TypeId} {bytes : Nat} [ke : Elm P t e 1 bytes] (B : Option Addr) (m d : Nat) (hx : ρ x = .slice B m d) : Runs P ρ o w fun v w' => ∃ g, v = .slice (some ⟨g, 0, none⟩) 1 1 ∧ St S w0 w' (eBlk g e [.slice B m d] :: L) := ex_slice1v (P := P) h t x ho _ hx
theorem ex_store1b (h : St S w0 w L) (ty : TypeId) (x y : Operand) (ho : o.op = .store ty x y) (g off : Nat) (hx : ρ x = .pointer (some ⟨g, off, none⟩)) (b : Bool) (hy : ρ y = .bool b) {t : TypeId} {xs xs' : List Value}
    [ks : One P ty] [kb : SlotB L g t xs F] [kp : Put1 xs off (.bool b) xs'] : Runs P ρ o w fun v w' => v = undef ∧ St S w0 w' (eBlk g t xs' :: F) := ex_store1 (P := P) h ty x y ho g off hx _ hy
theorem ex_box1b (h : St S w0 w L) (ty : TypeId) (x : Operand) (ho : o.op = .box ty x) (b : Bool) (hx : ρ x = .bool b) : Runs P ρ o w fun v w' => ∃ g, v = .pointer (some ⟨g, 0, none⟩) ∧ St S w0 w' (eBlk g ty [.bool b] :: L) := ex_box1 (P := P) h ty x ho _ hx
theorem ex_slice1b (h : St S w0 w L) (t : TypeId) (x : Operand) (ho : o.op = .buildSlice t 1 #[(0, x)]) {e : TypeId} {bytes : Nat} [ke : Elm P t e 1 bytes] (b : Bool) (hx : ρ x = .bool b) : Runs P ρ o w fun v w' => ∃ g, v = .slice (some ⟨g, 0, none⟩) 1 1 ∧ St S w0 w' (eBlk g e [.bool b] :: L) := ex_slice1v (P := P) h t x ho _ hx
theorem ex_store1t (h : St S w0 w L) (ty : TypeId) (x y : Operand) (ho : o.op = .store ty x y) (g off : Nat) (hx : ρ x = .pointer (some ⟨g, off, none⟩)) (s : ByteArray) (hy : ρ y = .string s) {t : TypeId} {xs xs' : List Value}
    [ks : One P ty] [kb : SlotB L g t xs F] [kp : Put1 xs off (.string s) xs'] : Runs P ρ o w fun v w' => v = undef ∧ St S w0 w' (eBlk g t xs' :: F) := ex_store1 (P := P) h ty x y ho g off hx _ hy
theorem ex_box1t (h : St S w0 w L) (ty : TypeId) (x : Operand) (ho : o.op = .box ty x) (s : ByteArray) (hx : ρ x = .string s) : Runs P ρ o w fun v w' => ∃ g, v = .pointer (some ⟨g, 0, none⟩) ∧ St S w0 w' (eBlk g ty [.string s] :: L) := ex_box1 (P := P) h ty x ho _ hx
theorem ex_slice1t (h : St S w0 w L) (t : TypeId) (x : Operand) (ho : o.op = .buildSlice t 1 #[(0, x)]) {e : TypeId} {bytes : Nat} [ke : Elm P t e 1 bytes] (s : ByteArray) (hx : ρ x = .string s) : Runs P ρ o w fun v w' => ∃ g, v = .slice (some ⟨g, 0, none⟩) 1 1 ∧ St S w0 w' (eBlk g e [.string s] :: L) := ex_slice1v (P := P) h t x ho _ hx
theorem ex_store1p (h : St S w0 w L) (ty : TypeId) (x y : Operand) (ho : o.op = .store ty x y) (g off : Nat) (hx : ρ x = .pointer (some ⟨g, off, none⟩)) (q : Option Addr) (hy : ρ y = .pointer q) {t : TypeId} {xs xs' : List Value}
    [ks : One P ty] [kb : SlotB L g t xs F] [kp : Put1 xs off (.pointer q) xs'] : Runs P ρ o w fun v w' => v = undef ∧ St S w0 w' (eBlk g t xs' :: F) := ex_store1 (P := P) h ty x y ho g off hx _ hy
theorem ex_box1p (h : St S w0 w L) (ty : TypeId) (x : Operand) (ho : o.op = .box ty x) (q : Option Addr) (hx : ρ x = .pointer q) : Runs P ρ o w fun v w' => ∃ g, v = .pointer (some ⟨g, 0, none⟩) ∧ St S w0 w' (eBlk g ty [.pointer q] :: L) := ex_box1 (P := P) h ty x ho _ hx
theorem ex_slice1p (h : St S w0 w L) (t : TypeId) (x : Operand) (ho : o.op = .buildSlice t 1 #[(0, x)]) {e : TypeId} {bytes : Nat} [ke : Elm P t e 1 bytes] (q : Option Addr) (hx : ρ x = .pointer q) : Runs P ρ o w fun v w' => ∃ g, v = .slice (some ⟨g, 0, none⟩) 1 1 ∧ St S w0 w' (eBlk g e [.pointer q] :: L) := ex_slice1v (P := P) h t x ho _ hx
theorem ex_store1m (h : St S w0 w L) (ty : TypeId) (x y : Operand) (ho : o.op = .store ty x y) (g off : Nat) (hx : ρ x = .pointer (some ⟨g, off, none⟩)) (r : Option Nat) (hy : ρ y = .map r) {t : TypeId} {xs xs' : List Value}
    [ks : One P ty] [kb : SlotB L g t xs F] [kp : Put1 xs off (.map r) xs'] : Runs P ρ o w fun v w' => v = undef ∧ St S w0 w' (eBlk g t xs' :: F) := ex_store1 (P := P) h ty x y ho g off hx _ hy
theorem ex_box1m (h : St S w0 w L) (ty : TypeId) (x : Operand) (ho : o.op = .box ty x) (r : Option Nat) (hx : ρ x = .map r) : Runs P ρ o w fun v w' => ∃ g, v = .pointer (some ⟨g, 0, none⟩) ∧ St S w0 w' (eBlk g ty [.map r] :: L) := ex_box1 (P := P) h ty x ho _ hx
theorem ex_slice1m (h : St S w0 w L) (t : TypeId) (x : Operand) (ho : o.op = .buildSlice t 1 #[(0, x)]) {e : TypeId} {bytes : Nat} [ke : Elm P t e 1 bytes] (r : Option Nat) (hx : ρ x = .map r) : Runs P ρ o w fun v w' => ∃ g, v = .slice (some ⟨g, 0, none⟩) 1 1 ∧ St S w0 w' (eBlk g e [.map r] :: L) := ex_slice1v (P := P) h t x ho _ hx
/-- The zero of a struct or an array, as a literal with no parts makes it. -/
class Blt0 (P : Program) (t : TypeId) (zs : outParam (List Value)) : Prop where
  eq : P.built t [] = some zs.toArray
theorem ex_lit0 (t : TypeId) (ho : o.op = .build t #[]) {zs : List Value} [k : Blt0 P t zs] : Reads P ρ o w (.agg zs.toArray) := ex_zero t ho zs k.eq
/-- Arrays of bytes that are held against each other. -/
class Arr8 (P : Program) (t : TypeId) (n : outParam Nat) : Prop where
  eq : ∃ e i, P.underlying t = some (.array n e) ∧ P.underlying e = some (.int .u8) ∧ P.info? e = some i ∧ i.size = 1
  guard : P.eqGuardType P.depth t = false
theorem ex_eq (t : TypeId) (x y : Operand) (t2 : TypeId) (ho : o.op = .binOp .eql t x y t2) (xs ys : List UInt8) (hx : ρ x = .agg (u8s xs).toArray) (hy : ρ y = .agg (u8s ys).toArray) {n : Nat} [k : Arr8 P t n] (hxl : xs.length = n) (hyl : ys.length = n) (b : Bool) (hb : (xs == ys) = b) :
    Reads P ρ o w (.bool b) := by
  obtain ⟨e, i, h1, h2, h3, h4⟩ := k.eq
  refine ⟨by simp [ho], by simp [Oper.about, ho], ?_⟩
  unfold execOp
  simp only [ho, hx, hy, Sem.run_bind, Sem.run_pure, Result.andThen_ok, run_guard_arr (P := P) k.guard .eql x y xs ys w |> fun h => (h : (eqGuard .eql t x y (.agg (u8s xs).toArray) (.agg (u8s ys).toArray)).run P w = .ok () w), run_eql_agg h1 h2 h3 h4 hxl hyl, hb]
theorem ex_neq (t : TypeId) (x y : Operand) (t2 : TypeId) (ho : o.op = .binOp .neq t x y t2) (xs ys : List UInt8) (hx : ρ x = .agg (u8s xs).toArray) (hy : ρ y = .agg (u8s ys).toArray) {n : Nat} [k : Arr8 P t n] (hxl : xs.length = n) (hyl : ys.length = n) (b : Bool) (hb : (!(xs == ys)) = b) :
    Reads P ρ o w (.bool b) := by
  obtain ⟨e, i, h1, h2, h3, h4⟩ := k.eq
  refine ⟨by simp [ho], by simp [Oper.about, ho], ?_⟩
  unfold execOp
  simp only [ho, hx, hy, Sem.run_bind, Sem.run_pure, Result.andThen_ok, run_guard_arr (P := P) k.guard .neq x y xs ys w |> fun h => (h : (eqGuard .neq t x y (.agg (u8s xs).toArray) (.agg (u8s ys).toArray)).run P w = .ok () w), run_neq_agg h1 h2 h3 h4 hxl hyl, hb]
theorem Sl.cellAt {b off n c : Nat} {xs : List Value} (h : Sl w (some ⟨b, off, none⟩) n c 1 xs) {i : Nat} {v : Value} (hv : xs[i]? = some v) : w.cell? ⟨b, off + i, none⟩ = some v := h.cells rfl i v hv
/-- copy into a row of one's own. -/
theorem ex_copy (h : St S w0 w L) (d s : Operand) (dT sT : TypeId) (ho : o.op = .call { callee := .builtin .copy, args := #[d, s], argTypes := #[dT, sT] }) {e : TypeId} {bytes : Nat} [ke : Elm P dT e 1 bytes]
    (A : Option Addr) {n c : Nat} {xs : List Value} (hd : ρ d = .slice A n c) [ko : SlotO L A e 1 n c xs F] (B : Option Addr) (m k : Nat) (hs : ρ s = .slice B m k) {ys : List Value} (hr : Sl w B m k 1 ys) (h1 : ∀ u ∈ ys, u.oneCell' = true) :
    Runs P ρ o w fun v w' => v = goInt (Nat.min m n) ∧ St S w0 w' (eOwn e 1 A n c (ys.take n ++ xs.drop m) :: F) := by
  obtain ⟨i, z, hi, hz, hsize, hby, hzs⟩ := ke.info
  have hinf : (P.info? e).map (·.size) = some 1 := by rw [hi, Option.map_some, hsize]
  have hown := h.row A (k := ko)
  have hyl : ys.length = m := by have := hr.len; omega
  have hxl : xs.length = n := by have := hown.1; omega
  have exec : ∀ v w', (Builtin.copy_ #[dT, sT] o.type #[.slice A n c, .slice B m k]).run P w = .ok v w' → (execOp ρ o).run P w = .ok (.value v) w' := fun v w' hrun => by
    unfold execOp
    simp only [ho, resolve, invoke, builtin, Sem.run_bind, Sem.run_pure, Result.andThen_ok, List.map_toArray, List.map_cons, List.map_nil, hd, hs, hrun]
  by_cases hm : Nat.min m n = 0
  · have hrun := run_copy_none (P := P) w dT sT o.type e A B n c m k ke.und hinf hm
    refine ⟨by simp [ho], by simp [Oper.about, ho, resolve, Target.leads], _, w, .inl (exec _ _ hrun), by rw [hm]; rfl, ?_⟩
    have hm' : min m n = 0 := hm
    have e1 : ys.take n ++ xs.drop m = xs := by
      by_cases hn : n = 0
      · subst hn
        have : xs = [] := List.eq_nil_of_length_eq_zero hxl
        simp [this]
      · have hm0 : m = 0 := by omega
        subst hm0
        have : ys = [] := List.eq_nil_of_length_eq_zero hyl
        simp [this]
    rw [e1]
    exact h.perm ko.perm
  · have hm' : ¬ min m n = 0 := hm
    rcases hown.2 with ⟨rfl, rfl, rfl⟩ | ⟨g, off, cur, rfl, hg, hnc, hcm, hle, htk⟩
    · exact absurd (Nat.min_zero m) hm
    · rw [Nat.mul_one] at hle htk
      obtain ⟨b, o2, rfl, _, hc⟩ := hr.pos (by omega)
      have hln : (ys.take n).length = Nat.min m n := by rw [List.length_take, hyl]; exact Nat.min_comm _ _
      have hln2 : (ys.take n).length = min m n := hln
      have hcl : cur.toList.length = cur.size := by simp
      have hrun := run_copy_row (P := P) w dT sT o.type e g off n c ⟨b, o2, none⟩ m k cur e (ys.take n) ke.und hinf hg hln (fun j v hv => by
        rw [add_none]
        rw [List.getElem?_take] at hv
        split at hv
        · exact hc j v hv
        · cases hv) (by omega) (fun v hv => h1 v (List.mem_of_mem_take hv))
      obtain ⟨hb', hs'⟩ := Blk.setRow (w := w) hg (cur.toList.take off ++ ys.take n ++ cur.toList.drop (off + (ys.take n).length)).toArray
      refine ⟨by simp [ho], by simp [Oper.about, ho, resolve, Target.leads], _, _, .inl (exec _ _ hrun), by rw [hln], h.set (k := ⟨ko.perm⟩) (eOwn e 1 (some ⟨g, off, none⟩) n c (ys.take n ++ xs.drop m)) (hs'.mono fun k _ hk => ⟨_, rfl, hk.symm⟩) ⟨?_, .inr ⟨g, off, _, rfl, hb', hnc, hcm, ?_, ?_⟩⟩ (fun k hk => .inl hk) (fun _ hk => hk)⟩
      · rw [List.length_append, hln2, List.length_drop, hxl]; omega
      · simp only [List.size_toArray, List.length_append, List.length_take, List.length_drop]
        omega
      · have h5 : (cur.toList.take off).length = off := by rw [List.length_take]; omega
        rw [Nat.mul_one, List.append_assoc, List.drop_append_of_le_length (by omega), List.drop_eq_nil_of_le (by omega), List.nil_append, List.take_append, List.take_of_length_le (by omega), hln2, ← htk, List.drop_take, List.drop_drop]
        congr 1
        rcases Nat.le_total m n with hmn | hmn
        · rw [Nat.min_eq_left hmn]
        · rw [Nat.min_eq_right hmn, Nat.sub_self, show n - m = 0 by omega, List.take_zero, List.take_zero]
/-- One element of a row stored. -/
theorem ex_store_row (h : St S w0 w L) (ty : TypeId) (x y : Operand) (ho : o.op = .store ty x y) (g off i : Nat) (hx : ρ x = .pointer (some ⟨g, off + i, none⟩)) (u : Value) (hy : ρ y = u) {e : TypeId} {n c : Nat} {xs : List Value}
    [ks : One P ty] [kv : OneV u] [ko : SlotO L (some ⟨g, off, none⟩) e 1 n c xs F] (hlt : i < n) :
    Runs P ρ o w fun v w' => v = undef ∧ St S w0 w' (eOwn e 1 (some ⟨g, off, none⟩) n c (xs.set i u) :: F) := by
  have hown := h.row (some ⟨g, off, none⟩) (k := ko)
  rcases hown.2 with ⟨h0, _⟩ | ⟨g', off', cur, e1, hg, hnc, hcm, hle, htk⟩
  · cases h0
  · injection e1 with e1
    injection e1 with e1 e2
    subst e1 e2
    rw [Nat.mul_one] at hle htk
    have hcl : cur.toList.length = cur.size := by simp
    obtain ⟨w', hrun, hb', hs', _⟩ := op_store (P := P) w ty x y ho g (off + i) hx u [u] hy kv.cells ks.siz (by simp [kv.one]) e _ hg (by simp; omega)
    have e3 : cur.toList.take (off + i) ++ [u] ++ cur.toList.drop (off + i + [u].length) = cur.toList.set (off + i) u := by
      rw [List.set_eq_take_append_cons_drop, if_pos (by omega)]
      simp
    rw [e3] at hb'
    refine ⟨by simp [ho], by simp [Oper.about, ho], _, _, .inr ⟨hrun, rfl⟩, rfl, h.set (k := ⟨ko.perm⟩) (eOwn e 1 (some ⟨g, off, none⟩) n c (xs.set i u)) (hs'.mono fun k _ hk => ⟨_, rfl, hk.symm⟩) ⟨by rw [List.length_set]; exact hown.1, .inr ⟨g, off, _, rfl, hb', hnc, hcm, by simp; omega, ?_⟩⟩ (fun k hk => .inl hk) (fun _ hk => hk)⟩
    rw [Nat.mul_one, ← htk, List.drop_set, if_neg (by omega), Nat.add_sub_cancel_left, List.take_set]
/-- []byte("..") of a constant: the literal's row is marked behind its end. -/
theorem ex_conv (h : St S w0 w L) (t : TypeId) (x : Operand) (ho : o.op = .convert t t x) {e : TypeId} {bytes : Nat} [ke : Elm P t e 1 bytes] (he : P.underlying e = some (.int .u8)) (g n : Nat) (hx : ρ x = .slice (some ⟨g, 0, none⟩) n n) {xs : List Value} [kb : SlotB L g e xs F] (hn : xs.length = n) (hm : n ≤ 100000) :
    Runs P ρ o w fun v w' => v = .slice (some ⟨g, 0, none⟩) n n ∧ St S w0 w' (eGot (some ⟨g, 0, none⟩) n n 1 xs :: F) := by
  have hb := h.blk g (k := kb)
  have hg : w.heap[g]? = some (.cells xs.toArray e (0, 0)) := hb
  have hsh : w.shape? g = some (e, xs.length) := by
    unfold World.shape?
    rw [hg]
    simp
  have hw : (w.freeze ⟨g, xs.length, none⟩ 1).heap[g]? = some (.cells xs.toArray e (xs.length, xs.length + 1)) := by
    unfold World.freeze
    simp [Array.getElem?_modify, hg]
  have hs : Step (fun k => k = g) w (w.freeze ⟨g, xs.length, none⟩ 1) := by
    unfold World.freeze
    refine ⟨rfl, rfl, rfl, by simp, fun k hk hk2 => ?_⟩
    simp [Array.getElem?_modify, Ne.symm hk2]
  have hcell : ∀ i u, xs[i]? = some u → (w.freeze ⟨g, xs.length, none⟩ 1).cell? ⟨g, 0 + i, none⟩ = some u := fun i u hu => by
    simp only [World.cell?, hw, Nat.zero_add]
    simpa using hu
  refine ⟨by simp [ho], by simp [Oper.about, ho], .slice (some ⟨g, 0, none⟩) n n, w.freeze ⟨g, xs.length, none⟩ 1, .inl ?_, rfl, h.set (k := ⟨kb.perm⟩) (eGot (some ⟨g, 0, none⟩) n n 1 xs) hs ⟨by omega, ⟨by rw [hn, Nat.mul_one], Nat.le_refl _, by simp [maxLen]; omega, fun _ => ⟨g, 0, rfl, ?_, hcell⟩⟩⟩ (fun k hk => .inl ?_) (fun _ hk => hk)⟩
  · unfold execOp
    simp [ho, hx, convert, run_underlying ke.und, run_underlying he, markStringish, hsh]
  · have := hs.size
    exact Nat.lt_of_lt_of_le hb.lt this
  · obtain ⟨_, a, ha, rfl⟩ := hk
    cases ha
    rfl
end

/-- What a load of type ty gives at a place among cells. -/
class LoadAs (P : Program) (ty : TypeId) (xs : List Value) (off : Nat) (v : outParam Value) : Prop where
  run : ∀ {w : World} {g : Nat} {t : TypeId} {ρ : Operand → Value} {o : Oper} (x : Operand), Blk w g t xs.toArray → o.op = .load ty x → ρ x = .pointer (some ⟨g, off, none⟩) → Reads P ρ o w v
instance LoadAs.one (P : Program) (ty : TypeId) (xs : List Value) (off : Nat) (u : Value) [ka : One P ty] [kc : Cell xs off u] : LoadAs P ty xs off u :=
  ⟨fun x hb ho hx => ex_load1_at ty x ho _ off hx u (by rw [hb.cell, List.getElem?_toArray]; exact kc.eq)⟩
instance LoadAs.agg (P : Program) (ty : TypeId) (xs ys : List Value) (off n : Nat) [ka : Agg P ty] [ks : Siz P ty n] [kp : Part xs off n ys] : LoadAs P ty xs off (.agg ys.toArray) :=
  ⟨fun x hb ho hx => by
    have hl : ys.length = n := by
      have := kp.le
      rw [← kp.eq, List.length_take, List.length_drop]
      omega
    exact ex_load_at ty x ho _ off hx ys hl (hb.part (by rw [hl]; exact kp.eq))⟩
theorem ex_loadv {P : Program} {ρ : Operand → Value} {o : Oper} {S : Nat → Prop} {w0 w : World} {L F : List Ent} (h : St S w0 w L) (ty : TypeId) (x : Operand) (ho : o.op = .load ty x) (g off : Nat) (hx : ρ x = .pointer (some ⟨g, off, none⟩)) {t : TypeId} {xs : List Value} {v : Value}
    [kb : SlotB L g t xs F] [kl : LoadAs P ty xs off v] : Reads P ρ o w v := kl.run x (h.blk g (k := kb)) ho hx
end Go.Proofs.Ytionnlckjjojnaa
namespace Go.Proofs.Ytionnlckjjojnaa
open Go.RowKit
set_option linter.unusedVariables false

/-- What has come up is closed under 'behind'. -/
structure Clo (md : Region.Mode) (ops : Array Oper) (l : Array Bool) : Prop where
  size : l.size = ops.size
  closed : ∀ j oj, ops[j]? = some oj → l.getD j false = true → ∀ e ∈ oj.after, Region.binds md e = true → l.getD e.on false = true
def reachB (md : Region.Mode) (ops : Array Oper) : Nat → Nat → Nat → Bool
  | 0, _, _ => false
  | f + 1, j, i => match ops[j]? with
    | none => false
    | some oj => oj.after.any fun e => Region.binds md e && (e.on == i || reachB md ops f e.on i)

section
variable {md : Region.Mode} {ops : Array Oper} {l : Array Bool}
theorem Clo.start (md : Region.Mode) (ops : Array Oper) : Clo md ops (Array.replicate ops.size false) :=
  ⟨by simp, fun j oj _ h => by rw [getD_replicate_false] at h; cases h⟩
theorem Clo.set {i : Nat} (h : Clo md ops l) (hi : i ∈ Region.ready md ops l) : Clo md ops (l.setIfInBounds i true) := by
  obtain ⟨_, oi, hoi, hall⟩ := mem_ready.1 hi
  refine ⟨by simp [h.size], fun j oj hj hl e he hb => ?_⟩
  by_cases hij : i = j
  · subst hij
    have : oj = oi := Option.some.inj (hj.symm.trans hoi)
    subst this
    exact getD_set_true (hall e he hb)
  · rw [getD_set_ne false hij] at hl
    exact getD_set_true (h.closed j oj hj hl e he hb)
theorem Clo.reach (h : Clo md ops l) : ∀ (f j i : Nat), reachB md ops f j i = true → l.getD j false = true → l.getD i false = true
  | 0, _, _, hr, _ => by cases hr
  | f + 1, j, i, hr, hl => by
    unfold reachB at hr
    split at hr
    · cases hr
    · rename_i oj hj
      obtain ⟨e, he, hb⟩ := Array.any_eq_true'.1 hr
      simp only [Bool.and_eq_true, Bool.or_eq_true, beq_iff_eq] at hb
      have h1 := h.closed j oj hj hl e he hb.1
      rcases hb.2 with rfl | h2
      · exact h1
      · exact h.reach f _ _ h2 h1
theorem Clo.before (h : Clo md ops l) {f T i : Nat} (hr : reachB md ops f T i = true) (hl : l.getD i true = false) : l.getD T false = false := by
  cases hT : l.getD T false with
  | false => rfl
  | true => have := h.reach f T i hr hT; rw [getD_both hl] at this; cases this
end

/-- An operation number i, run. -/
def wpOpQ (P : Program) (ops : Array Oper) (Q : Exit → Act → World → Prop) (i : Nat) (K : Act → World → Prop) (a : Act) (w : World) : Prop :=
  match ops[i]? with
  | none => K a w
  | some o => if Region.wanted o (yielded ops a.tmps) = true then o.wp P a w K Q else K (a.put o.dst undef) w
section
variable {P : Program} {ops : Array Oper} {Q : Exit → Act → World → Prop} {i : Nat} {K K' : Act → World → Prop} {a : Act} {w : World}
theorem wpOpQ_mono (h : ∀ a w, K a w → K' a w) (hh : wpOpQ P ops Q i K a w) : wpOpQ P ops Q i K' a w := by
  unfold wpOpQ at hh ⊢
  cases ho : ops[i]? with
  | none => simp only [ho] at hh; exact h _ _ hh
  | some o =>
    by_cases hw : Region.wanted o (yielded ops a.tmps) = true
    · simp only [ho, hw, if_true] at hh ⊢
      exact Oper.wp_mono h hh
    · simp only [ho, hw] at hh ⊢
      exact h _ _ hh
theorem wpOp_of_Q (hh : wpOpQ P ops Q i K a w) : wpOp P ops Q i K a w := by
  unfold wpOpQ at hh
  unfold wpOp
  cases ho : ops[i]? with
  | none => simpa [ho] using hh
  | some o =>
    by_cases hw : Region.wanted o (yielded ops a.tmps) = true
    · simp only [ho, hw, if_true] at hh ⊢
      exact .inl hh
    · simp only [ho, hw] at hh ⊢
      exact hh
/-- An operation that defers nothing, in a round. -/
theorem wpIn_of_wp {l n : Nat} {o : Oper} (hd : ∀ c, o.op ≠ .defer c) (h : o.wp P a w K Q) : o.wpIn (Fence.wide.inRound l) n P a w K Q := by
  refine ⟨fun _ _ => trivial, ?_⟩
  rw [Oper.semAt_eq _ _ _ hd]
  unfold Oper.wp at h
  generalize (execOp a.eval o).run P w = r at h ⊢
  cases r with
  | ok x w' =>
    cases x <;> simp only [Oper.upon, Oper.uponIn] at h ⊢ <;> try exact h
    case enter f args =>
      refine ⟨fun e => (by cases e), CallsIn.inRound l (callsIn_wide.2 ?_)⟩
      exact h.mono fun e w'' he => by cases e <;> exact he
    case row row args =>
      refine ⟨fun e => (by cases e), fun c cs _ => ?_⟩
      obtain ⟨v, w'', h1, h2⟩ := h c cs
      exact ⟨v, w'', h1, (StepsIn.of_steps h2).mono fun m _ => fenced_wide P m⟩
    all_goals exact h.elim
  | halt x w' => cases x <;> simp only [Oper.upon, Oper.uponIn] at h ⊢ <;> exact h
def noDefer (ops : Array Oper) : Bool := ops.all fun o => match o.op with | .defer _ => false | _ => true
theorem noDefer_spec (h : noDefer ops = true) {o : Oper} (ho : ops[i]? = some o) : ∀ c, o.op ≠ .defer c := fun c hc => by
  have h1 := Array.all_eq_true_iff_forall_mem.1 h o (Array.mem_of_getElem? ho)
  rw [hc] at h1
  cases h1
theorem wpOpIn_of_Q {l n : Nat} (hd : noDefer ops = true) (hh : wpOpQ P ops Q i K a w) : wpOpIn (Fence.wide.inRound l) n P ops Q i K a w := by
  unfold wpOpQ at hh
  unfold wpOpIn
  cases ho : ops[i]? with
  | none => simpa [ho] using hh
  | some o =>
    by_cases hw : Region.wanted o (yielded ops a.tmps) = true
    · simp only [ho, hw, if_true] at hh ⊢
      exact wpIn_of_wp (noDefer_spec hd ho) hh
    · simp only [ho, hw] at hh ⊢
      exact ⟨fun _ _ => trivial, hh⟩
theorem wpOpQ_step {o : Oper} (ho : ops[i]? = some o) (hw : Region.wanted o (yielded ops a.tmps) = true) (h : o.wp P a w K Q) : wpOpQ P ops Q i K a w := by
  unfold wpOpQ
  simp only [ho, hw, if_true]
  exact h
theorem yields_Q {o : Oper} {v : Value} {S : World → Prop} (hi : ops[i]? = some o) (hy : YieldsIf P ops S o v a) (hS : S w) (h : K (a.put o.dst v) w) : wpOpQ P ops Q i K a w := by
  unfold wpOpQ
  simp only [hi]
  rcases hy with ⟨hw, hv⟩ | ⟨hw, rfl⟩
  · simp only [hw, if_true, Oper.wp, hv w hS, Oper.upon]
    exact h
  · simp only [hw, Bool.false_eq_true, if_false]
    exact h
/-- Operation j, run ahead of one that yields in any case. -/
theorem putQ {j : Nat} {oi oj : Oper} {v : Value} {S : World → Prop} (hj : ops[j]? = some oj) (hap : oi.apart ops oj = true) (hsi : ∀ cs b, oi.op ≠ .select cs b) (hsj : ∀ cs b, oj.op ≠ .select cs b)
    (hQ : ∀ c a w, Q (.panic c) (a.put oi.dst v) w → Q (.panic c) a w) (hy : YieldsIf P ops S oi v a) (h : wpOpQ P ops Q j K (a.put oi.dst v) w) :
    wpOpQ P ops Q j (fun a' w' => YieldsIf P ops S oi v a' ∧ K (a'.put oi.dst v) w') a w := by
  obtain ⟨h1, h2, h3⟩ := Oper.apart_spec hap
  have stays : ∀ (a : Act) (u : Value), YieldsIf P ops S oi v a → YieldsIf P ops S oi v (a.put oj.dst u) := fun a u ha => ha.of_same (execOp_put oi hsi a oj.dst u h3) (wanted_put oi a oj.dst u h3)
  unfold wpOpQ at h ⊢
  simp only [hj] at h ⊢
  rw [wanted_put oj a oi.dst v h1] at h
  by_cases hw : Region.wanted oj (yielded ops a.tmps) = true
  · rw [if_pos hw] at h ⊢
    unfold Oper.wp at h ⊢
    rw [execOp_put oj hsj a oi.dst v h1] at h
    cases hr : (execOp a.eval oj).run P w with
    | halt x w' =>
      rw [hr] at h
      cases x <;> simp only [Oper.upon] at h ⊢
      exact hQ _ _ _ h
    | ok x w' =>
      rw [hr] at h
      cases x <;> simp only [Oper.upon] at h ⊢
      case value u => exact ⟨stays a u hy, by rw [← Act.put_comm a v u h2]; exact h⟩
      case skip => exact ⟨stays a undef hy, by rw [← Act.put_comm a v undef h2]; exact h⟩
      case defer d =>
        refine ⟨stays _ undef (hy.of_same rfl rfl), ?_⟩
        rw [← Act.put_comm _ v undef h2, ← Act.put_defers]
        exact h
      case enter f args =>
        exact Calls.mono h fun e w'' he => by
          cases e with
          | returned u => exact ⟨stays a u hy, by rw [← Act.put_comm a v u h2]; exact he⟩
          | panicked c => exact hQ _ _ _ he
          | outgrown => exact he
      case row row args => exact Rows.mono h fun u w'' he => ⟨stays a u hy, by rw [← Act.put_comm a v u h2]; exact he⟩
  · rw [if_neg hw] at h ⊢
    exact ⟨stays a undef hy, by rw [← Act.put_comm a v undef h2]; exact h⟩
end

section
variable {P : Program} {md : Region.Mode} {ops : Array Oper} {Q : Exit → Act → World → Prop} {T : Nat} {G : World → Prop}
def SJ (T : Nat) (G : World → Prop) (l : Array Bool) (w : World) : Prop := l.getD T false = false → G w
theorem SJ.set {l : Array Bool} {w : World} {i : Nat} (hi : i ≠ T) : SJ T G (l.setIfInBounds i true) w ↔ SJ T G l w := by
  unfold SJ
  rw [getD_set_ne false hi]
def wpAnyJ (P : Program) (md : Region.Mode) (ops : Array Oper) (Q : Exit → Act → World → Prop) (T : Nat) (G : World → Prop) : Nat → Array Bool → Act → World → Prop
  | 0, l, a, w => Region.ready md ops l = [] ∧ Q .normal a w
  | fuel + 1, l, a, w => (Region.ready md ops l = [] → Q .normal a w) ∧
    ∀ i ∈ Region.ready md ops l, wpOpQ P ops Q i (fun a' w' => SJ T G (l.setIfInBounds i true) w' ∧ wpAnyJ P md ops Q T G fuel (l.setIfInBounds i true) a' w') a w
theorem wpAny_of_J : ∀ (fuel : Nat) (l : Array Bool) (a : Act) (w : World), wpAnyJ P md ops Q T G fuel l a w → wpAny P md ops Q fuel l a w
  | 0, _, _, _, h => h
  | fuel + 1, _, _, _, h => ⟨h.1, fun i hi => wpOp_of_Q (wpOpQ_mono (fun a' w' h' => wpAny_of_J fuel _ a' w' h'.2) (h.2 i hi))⟩
theorem wpAnyIn_of_J {n l : Nat} (hd : noDefer ops = true) : ∀ (fuel : Nat) (ls : Array Bool) (a : Act) (w : World), wpAnyJ P md ops Q T G fuel ls a w → wpAnyIn (Fence.wide.inRound l) n P md ops Q fuel ls a w
  | 0, _, _, _, h => h
  | fuel + 1, _, _, _, h => ⟨h.1, fun i hi => wpOpIn_of_Q hd (wpOpQ_mono (fun a' w' h' => wpAnyIn_of_J hd fuel _ a' w' h'.2) (h.2 i hi))⟩

theorem wpAnyJ_first {i : Nat} {oi : Oper} {v : Value} {G' : World → Prop} (hi : ops[i]? = some oi) (hsel : ∀ (j : Nat) (o : Oper) cs b, ops[j]? = some o → o.op ≠ .select cs b)
    (hQ : ∀ c a w, Q (.panic c) (a.put oi.dst v) w → Q (.panic c) a w) (hiT : i ≠ T) (hG : ∀ l w, Clo md ops l → l.getD i true = false → SJ T G l w → G' w) :
    ∀ (fuel : Nat) (l : Array Bool) (a : Act) (w : World),
      (∀ j oj, ops[j]? = some oj → j ≠ i → l.getD j true = false → (∀ e ∈ oj.after, Region.binds md e = true → e.on ≠ i) → oi.apart ops oj = true) →
      Clo md ops l → i ∈ Region.ready md ops l → YieldsIf P ops G' oi v a → SJ T G l w →
      wpAnyJ P md ops Q T G fuel (l.setIfInBounds i true) (a.put oi.dst v) w → wpAnyJ P md ops Q T G (fuel + 1) l a w := by
  intro fuel
  induction fuel with
  | zero =>
    intro l a w _ hc hr hy hS H
    refine ⟨fun h => (by rw [h] at hr; cases hr), fun j hj => ?_⟩
    by_cases hji : j = i
    · subst hji; exact yields_Q hi hy (hG l w hc (mem_ready.1 hr).1 hS) ⟨(SJ.set hiT).2 hS, H⟩
    · have := ready_mono hj hji
      rw [H.1] at this
      cases this
  | succ fuel ih =>
    intro l a w hfree hc hr hy hS H
    refine ⟨fun h => (by rw [h] at hr; cases hr), fun j hj => ?_⟩
    by_cases hji : j = i
    · subst hji; exact yields_Q hi hy (hG l w hc (mem_ready.1 hr).1 hS) ⟨(SJ.set hiT).2 hS, H⟩
    · have h1 := H.2 j (ready_mono hj hji)
      obtain ⟨hjun, oj, hoj, hall⟩ := mem_ready.1 hj
      have hnot : ∀ e ∈ oj.after, Region.binds md e = true → e.on ≠ i := fun e he hb heq => by
        have h1 := hall e he hb
        have h0 := (mem_ready.1 hr).1
        rw [heq] at h1
        rw [getD_both h0] at h1
        cases h1
      have h2 := putQ hoj (hfree j oj hoj hji hjun hnot) (fun cs b => hsel i oi cs b hi) (fun cs b => hsel j oj cs b hoj) hQ hy h1
      have hfree' : ∀ k ok, ops[k]? = some ok → k ≠ i → (l.setIfInBounds j true).getD k true = false →
          (∀ e ∈ ok.after, Region.binds md e = true → e.on ≠ i) → oi.apart ops ok = true := fun k ok hk hki hun hno => by
        refine hfree k ok hk hki ?_ hno
        by_cases hjk : j = k
        · subst hjk; exact hjun
        · rw [getD_set_ne true hjk] at hun; exact hun
      refine wpOpQ_mono (fun a' w' h3 => ?_) h2
      obtain ⟨h3, h4, h5⟩ := h3
      rw [Array.setIfInBounds_comm _ _ (Ne.symm hji)] at h4 h5
      have h6 := (SJ.set (l := l.setIfInBounds j true) hiT).1 h4
      exact ⟨h6, ih (l.setIfInBounds j true) a' w' hfree' (hc.set hj) (ready_mono hr (Ne.symm hji)) h3 h6 h5⟩

/-- An operation that yields alike in whatever world. -/
theorem wpAnyJ_pure (d : Tmp) {i : Nat} {oi : Oper} {v : Value} {fuel : Nat} {l : Array Bool} {a : Act} {w : World} (hi : ops[i]? = some oi) (hd : oi.dst = some d) (hs : Region.noSelect ops = true) (hf : Region.free md ops l i = true)
    (hr : (Region.ready md ops l).contains i = true) (hiT : i ≠ T) (hc : Clo md ops l) (hS : SJ T G l w) (hQ : ∀ c a w, Q (.panic c) (a.put oi.dst v) w → Q (.panic c) a w) (hy : YieldsIf P ops (fun _ => True) oi v a)
    (h : Clo md ops (l.setIfInBounds i true) → SJ T G (l.setIfInBounds i true) w → wpAnyJ P md ops Q T G fuel (l.setIfInBounds i true) (a.put (some d) v) w) : wpAnyJ P md ops Q T G (fuel + 1) l a w :=
  wpAnyJ_first hi (Region.noSelect_spec hs) hQ hiT (fun _ _ _ _ _ => trivial) fuel l a w (Region.free_spec hi hf) hc (by simpa using hr) hy hS (by rw [hd]; exact h (hc.set (by simpa using hr)) ((SJ.set hiT).2 hS))
/-- An operation that yields alike in each world of G. -/
theorem wpAnyJ_load (d : Tmp) {i : Nat} {oi : Oper} {v : Value} {fuel : Nat} {l : Array Bool} {a : Act} {w : World} (hi : ops[i]? = some oi) (hd : oi.dst = some d) (hs : Region.noSelect ops = true) (hf : Region.free md ops l i = true)
    (hr : (Region.ready md ops l).contains i = true) (hrT : reachB md ops ops.size T i = true) (hiT : i ≠ T) (hc : Clo md ops l) (hS : SJ T G l w) (hQ : ∀ c a w, Q (.panic c) (a.put oi.dst v) w → Q (.panic c) a w)
    (hw : Region.wanted oi (yielded ops a.tmps) = true) (hy : ∀ w, G w → Reads P a.eval oi w v)
    (h : Clo md ops (l.setIfInBounds i true) → SJ T G (l.setIfInBounds i true) w → wpAnyJ P md ops Q T G fuel (l.setIfInBounds i true) (a.put (some d) v) w) : wpAnyJ P md ops Q T G (fuel + 1) l a w :=
  wpAnyJ_first (G' := G) hi (Region.noSelect_spec hs) hQ hiT (fun l w hl hu hS => hS (hl.before hrT hu)) fuel l a w (Region.free_spec hi hf) hc (by simpa using hr) (.inl ⟨hw, fun w hG => (hy w hG).2.2⟩) hS (by rw [hd]; exact h (hc.set (by simpa using hr)) ((SJ.set hiT).2 hS))
/-- The one operation that may come up now. -/
theorem wpAnyJ_one {i : Nat} {oi : Oper} {fuel : Nat} {l : Array Bool} {a : Act} {w : World} (hi : ops[i]? = some oi) (hr : Region.ready md ops l = [i]) (hc : Clo md ops l) (hw : Region.wanted oi (yielded ops a.tmps) = true)
    (h : ∀ K : Act → World → Prop, Shut (∀ a' w', SJ T G (l.setIfInBounds i true) w' → (Clo md ops (l.setIfInBounds i true) → SJ T G (l.setIfInBounds i true) w' → wpAnyJ P md ops Q T G fuel (l.setIfInBounds i true) a' w') → K a' w') → oi.wp P a w K Q) : wpAnyJ P md ops Q T G (fuel + 1) l a w := by
  have hc2 := hc.set (i := i) (by rw [hr]; simp)
  refine ⟨fun h0 => (by rw [hr] at h0; cases h0), fun j hj => ?_⟩
  rw [hr] at hj
  obtain rfl : j = i := by simpa using hj
  exact wpOpQ_step hi hw (h _ fun a' w' hS hW => ⟨hS, hW hc2 hS⟩)
theorem wpAnyJ_done {l : Array Bool} {a : Act} {w : World} (hr : Region.ready md ops l = []) (h : Q .normal a w) : ∀ fuel, wpAnyJ P md ops Q T G fuel l a w
  | 0 => ⟨hr, h⟩
  | _ + 1 => ⟨fun _ => h, by rw [hr]; simp⟩
theorem wp_region_J {id : Nat} {a : Act} {w : World} (T : Nat) (G : World → Prop) (hm : P.follows .mixedOrders = true) (hG : G w.drew)
    (h : Clo .any ops (Array.replicate ops.size false) → SJ T G (Array.replicate ops.size false) w.drew → wpAnyJ P .any ops Q T G ops.size (Array.replicate ops.size false) a w.drew) : (Code.region id ops true).wp P Q a w :=
  wp_region_any hm (wpAny_of_J _ _ _ _ (h (Clo.start _ _) (fun _ => hG)))
theorem SJ.past {l : Array Bool} {w : World} (h : l.getD T false = true) : SJ T G l w := fun h0 => by rw [h] at h0; cases h0
/-- The same, where what has come up and what G says go with the goal. -/
def wpAnyK (P : Program) (md : Region.Mode) (ops : Array Oper) (Q : Exit → Act → World → Prop) (T : Nat) (G : World → Prop) (fuel : Nat) (l : Array Bool) (a : Act) (w : World) : Prop := Clo md ops l → SJ T G l w → wpAnyJ P md ops Q T G fuel l a w
theorem wpAnyK_pure (d : Tmp) {i : Nat} {oi : Oper} {v : Value} {fuel : Nat} {l : Array Bool} {a : Act} {w : World} (hi : ops[i]? = some oi) (hd : oi.dst = some d) (hs : Region.noSelect ops = true) (hf : Region.free md ops l i = true)
    (hr : (Region.ready md ops l).contains i = true) (hiT : i ≠ T) (hQ : ∀ c a w, Q (.panic c) (a.put oi.dst v) w → Q (.panic c) a w) (hy : YieldsIf P ops (fun _ => True) oi v a)
    (h : wpAnyK P md ops Q T G fuel (l.setIfInBounds i true) (a.put (some d) v) w) : wpAnyK P md ops Q T G (fuel + 1) l a w := fun hc hS => wpAnyJ_pure d hi hd hs hf hr hiT hc hS hQ hy h
theorem wpAnyK_load (d : Tmp) {i : Nat} {oi : Oper} {v : Value} {fuel : Nat} {l : Array Bool} {a : Act} {w : World} (hi : ops[i]? = some oi) (hd : oi.dst = some d) (hs : Region.noSelect ops = true) (hf : Region.free md ops l i = true)
    (hr : (Region.ready md ops l).contains i = true) (hrT : reachB md ops ops.size T i = true ∨ ops.size ≤ T) (hiT : i ≠ T) (hQ : ∀ c a w, Q (.panic c) (a.put oi.dst v) w → Q (.panic c) a w)
    (hw : Region.wanted oi (yielded ops a.tmps) = true) (hy : ∀ w, G w → Reads P a.eval oi w v)
    (h : wpAnyK P md ops Q T G fuel (l.setIfInBounds i true) (a.put (some d) v) w) : wpAnyK P md ops Q T G (fuel + 1) l a w := fun hc hS => by
  rcases hrT with hrT | hrT
  · exact wpAnyJ_load d hi hd hs hf hr hrT hiT hc hS hQ hw hy h
  · exact wpAnyJ_first (G' := G) hi (Region.noSelect_spec hs) hQ hiT (fun l w hl hu hS => hS (by
      have := hl.size
      simp [Array.getElem?_eq_none (show l.size ≤ T by omega)])) fuel l a w (Region.free_spec hi hf) hc (by simpa using hr) (.inl ⟨hw, fun w hG => (hy w hG).2.2⟩) hS (by rw [hd]; exact h (hc.set (by simpa using hr)) ((SJ.set hiT).2 hS))
/-- One whose guard says no. -/
theorem wpAnyK_not (d : Tmp) {i : Nat} {oi : Oper} {fuel : Nat} {l : Array Bool} {a : Act} {w : World} (hi : ops[i]? = some oi) (hd : oi.dst = some d) (hs : Region.noSelect ops = true) (hf : Region.free md ops l i = true)
    (hr : (Region.ready md ops l).contains i = true) (hiT : i ≠ T) (hQ : ∀ c a w, Q (.panic c) (a.put oi.dst undef) w → Q (.panic c) a w) (hw : Region.wanted oi (yielded ops a.tmps) = false)
    (h : wpAnyK P md ops Q T G fuel (l.setIfInBounds i true) (a.put (some d) undef) w) : wpAnyK P md ops Q T G (fuel + 1) l a w := wpAnyK_pure d hi hd hs hf hr hiT hQ (.inr ⟨hw, rfl⟩) h
theorem wpAnyK_one {i : Nat} {oi : Oper} {fuel : Nat} {l : Array Bool} {a : Act} {w : World} (hi : ops[i]? = some oi) (hr : Region.ready md ops l = [i]) (hw : Region.wanted oi (yielded ops a.tmps) = true)
    (h : ∀ K : Act → World → Prop, Shut (∀ a' w', SJ T G (l.setIfInBounds i true) w' → wpAnyK P md ops Q T G fuel (l.setIfInBounds i true) a' w' → K a' w') → oi.wp P a w K Q) : wpAnyK P md ops Q T G (fuel + 1) l a w := fun hc hS => wpAnyJ_one hi hr hc hw h
theorem wpAnyK_done {fuel : Nat} {l : Array Bool} {a : Act} {w : World} (hr : Region.ready md ops l = []) (h : Q .normal a w) : wpAnyK P md ops Q T G fuel l a w := fun _ _ => wpAnyJ_done hr h fuel
theorem wp_region_K {id : Nat} {a : Act} {w : World} (T : Nat) (G : World → Prop) (hm : P.follows .mixedOrders = true) (hG : G w.drew)
    (h : wpAnyK P .any ops Q T G ops.size (Array.replicate ops.size false) a w.drew) : (Code.region id ops true).wp P Q a w := wp_region_J T G hm hG h
theorem wi_region_K {n l : Nat} {id : Nat} {a : Act} {w : World} (T : Nat) (G : World → Prop) (hm : P.follows .mixedOrders = true) (hd : noDefer ops = true) (hG : G w.drew)
    (h : wpAnyK P .any ops Q T G ops.size (Array.replicate ops.size false) a w.drew) : (Code.region id ops true).wpIn (Fence.wide.inRound l) n P Q a w :=
  wpIn_region_any hm (wpAnyIn_of_J hd _ _ _ _ (h (Clo.start _ _) (fun _ => hG)))
end
end Go.Proofs.Ytionnlckjjojnaa
namespace Go.Proofs.Ytionnlckjjojnaa
open Go.RowKit
set_option linter.unusedVariables false

section
variable {P : Program} {md : Region.Mode} {ops : Array Oper} {Q : Exit → Act → World → Prop} {T : Nat} {G : World → Prop}
theorem wpAnyJ_many {rs : List Nat} {fuel : Nat} {l : Array Bool} {a : Act} {w : World} (hr : Region.ready md ops l = rs) (hne : rs ≠ []) (hc : Clo md ops l)
    (h : ∀ i ∈ rs, ∃ oi, ops[i]? = some oi ∧ Region.wanted oi (yielded ops a.tmps) = true ∧ ∀ K : Act → World → Prop, Shut (∀ a' w', SJ T G (l.setIfInBounds i true) w' → (Clo md ops (l.setIfInBounds i true) → SJ T G (l.setIfInBounds i true) w' → wpAnyJ P md ops Q T G fuel (l.setIfInBounds i true) a' w') → K a' w') → oi.wp P a w K Q) : wpAnyJ P md ops Q T G (fuel + 1) l a w := by
  refine ⟨fun h0 => absurd (hr.symm.trans h0) hne, fun j hj => ?_⟩
  have hc2 := hc.set (i := j) hj
  rw [hr] at hj
  obtain ⟨oi, hi, hw, h⟩ := h j hj
  exact wpOpQ_step hi hw (h _ fun a' w' hS hW => ⟨hS, hW hc2 hS⟩)
/-- Two that may come up next. -/
theorem wpAnyK_two {i i2 : Nat} {oi oi2 : Oper} {fuel : Nat} {l : Array Bool} {a : Act} {w : World} (hi : ops[i]? = some oi) (hi2 : ops[i2]? = some oi2) (hr : Region.ready md ops l = [i, i2]) (hw : Region.wanted oi (yielded ops a.tmps) = true) (hw2 : Region.wanted oi2 (yielded ops a.tmps) = true)
    (h : ∀ K : Act → World → Prop, Shut (∀ a' w', SJ T G (l.setIfInBounds i true) w' → wpAnyK P md ops Q T G fuel (l.setIfInBounds i true) a' w' → K a' w') → oi.wp P a w K Q)
    (h2 : ∀ K : Act → World → Prop, Shut (∀ a' w', SJ T G (l.setIfInBounds i2 true) w' → wpAnyK P md ops Q T G fuel (l.setIfInBounds i2 true) a' w' → K a' w') → oi2.wp P a w K Q) : wpAnyK P md ops Q T G (fuel + 1) l a w := fun hc hS => wpAnyJ_many hr (by simp) hc fun j hj => by
  rcases List.mem_cons.1 hj with rfl | hj
  · exact ⟨oi, hi, hw, h⟩
  · obtain rfl : j = i2 := by simpa using hj
    exact ⟨oi2, hi2, hw2, h2⟩
/-- Three that may come up next. -/
theorem wpAnyK_three {i i2 i3 : Nat} {oi oi2 oi3 : Oper} {fuel : Nat} {l : Array Bool} {a : Act} {w : World} (hi : ops[i]? = some oi) (hi2 : ops[i2]? = some oi2) (hi3 : ops[i3]? = some oi3) (hr : Region.ready md ops l = [i, i2, i3]) (hw : Region.wanted oi (yielded ops a.tmps) = true) (hw2 : Region.wanted oi2 (yielded ops a.tmps) = true) (hw3 : Region.wanted oi3 (yielded ops a.tmps) = true)
    (h : ∀ K : Act → World → Prop, Shut (∀ a' w', SJ T G (l.setIfInBounds i true) w' → wpAnyK P md ops Q T G fuel (l.setIfInBounds i true) a' w' → K a' w') → oi.wp P a w K Q)
    (h2 : ∀ K : Act → World → Prop, Shut (∀ a' w', SJ T G (l.setIfInBounds i2 true) w' → wpAnyK P md ops Q T G fuel (l.setIfInBounds i2 true) a' w' → K a' w') → oi2.wp P a w K Q)
    (h3 : ∀ K : Act → World → Prop, Shut (∀ a' w', SJ T G (l.setIfInBounds i3 true) w' → wpAnyK P md ops Q T G fuel (l.setIfInBounds i3 true) a' w' → K a' w') → oi3.wp P a w K Q) : wpAnyK P md ops Q T G (fuel + 1) l a w := fun hc hS => wpAnyJ_many hr (by simp) hc fun j hj => by
  rcases List.mem_cons.1 hj with rfl | hj
  · exact ⟨oi, hi, hw, h⟩
  · rcases List.mem_cons.1 hj with rfl | hj
    · exact ⟨oi2, hi2, hw2, h2⟩
    · obtain rfl : j = i3 := by simpa using hj
      exact ⟨oi3, hi3, hw3, h3⟩
end
end Go.Proofs.Ytionnlckjjojnaa
namespace Go.Proofs.Ytionnlckjjojnaa
open Go.RowKit
set_option linter.unusedVariables false

/-- Parts whose blocks are cells. -/
class Calm (L : List Ent) : Prop where
  all : ∀ x ∈ L, x.isC = true
instance Calm.nil : Calm [] := ⟨by simp⟩
theorem Calm.cons' {x : Ent} {L : List Ent} (h : x.isC = true) (k : Calm L) : Calm (x :: L) := ⟨fun y hy => by
  rcases List.mem_cons.1 hy with rfl | hy
  · exact h
  · exact k.all y hy⟩
instance Calm.blk (g : Nat) (t : TypeId) (xs : List Value) (L : List Ent) [k : Calm L] : Calm (eBlk g t xs :: L) := Calm.cons' rfl k
instance Calm.own (e : TypeId) (sz : Nat) (A : Option Addr) (n c : Nat) (xs : List Value) (L : List Ent) [k : Calm L] : Calm (eOwn e sz A n c xs :: L) := Calm.cons' rfl k
instance Calm.sl (A : Option Addr) (n c sz : Nat) (xs : List Value) (L : List Ent) [k : Calm L] : Calm (eSl A n c sz xs :: L) := Calm.cons' rfl k
instance Calm.got (A : Option Addr) (n c sz : Nat) (xs : List Value) (L : List Ent) [k : Calm L] : Calm (eGot A n c sz xs :: L) := Calm.cons' rfl k
instance Calm.star (a b : Ent) (L : List Ent) [k : Calm (a :: b :: L)] : Calm (eStar a b :: L) := Calm.cons' (by simp [eStar, k.all a (by simp), k.all b (by simp)]) ⟨fun x hx => k.all x (by simp [hx])⟩

section
variable {S : Nat → Prop} {w0 w w' : World} {L L' : List Ent} {B : Nat}
theorem St.loose (h : St S w0 w L) (hL : Loose B w w') (hB : w0.heap.size ≤ B) [hc : Calm L] : St S w0 w' L := by
  refine ⟨hL.step h.step hB, fun x hx => ?_, h.foot, h.apart⟩
  refine x.keep (h.holds x hx) hL fun k hk ⟨_, o, ho, hc2⟩ => ?_
  have := x.cel (hc.all x hx) (h.holds x hx) k hk o ho
  rw [hc2] at this
  cases this
def owns (L : List Ent) (i : Nat) : Prop := ∃ x ∈ L, x.own i
theorem St.renew (h : St S w0 w L) : St (owns L) w w L := h.anew
theorem St.back (h : St S w0 w L) (k : St (owns L) w w' L') : St S w0 w' L' := h.after k (fun _ h => h)
theorem St.keepsFrom (h : St S w0 w L) (k : St (owns L) w w' L') [hc : Calm L] : KeepsFrom B w w' :=
  k.step.keepsFrom fun i o ⟨x, hx, hi⟩ ho => x.cel (hc.all x hx) (h.holds x hx) i (.inl hi) o ho
theorem St.keeps {K : Nat → Prop} (k : St (owns L) w w' L') (hK : ∀ i, K i → ¬ owns L i) : Keeps K w w' := k.step.keeps hK
theorem owns_nil {i : Nat} : ¬ owns [] i := fun ⟨_, h, _⟩ => by cases h
theorem owns_blk {g : Nat} {t : TypeId} {xs : List Value} {i : Nat} : owns (eBlk g t xs :: L) i ↔ i = g ∨ owns L i := by
  constructor
  · rintro ⟨x, hx, hi⟩
    rcases List.mem_cons.1 hx with rfl | hx
    · exact .inl hi
    · exact .inr ⟨x, hx, hi⟩
  · rintro (rfl | ⟨x, hx, hi⟩)
    · exact ⟨_, List.mem_cons_self, rfl⟩
    · exact ⟨x, List.mem_cons_of_mem _ hx, hi⟩
theorem owns_own {e : TypeId} {sz : Nat} {A : Option Addr} {n c : Nat} {xs : List Value} {i : Nat} : owns (eOwn e sz A n c xs :: L) i ↔ At A i ∨ owns L i := by
  constructor
  · rintro ⟨x, hx, hi⟩
    rcases List.mem_cons.1 hx with rfl | hx
    · exact .inl hi
    · exact .inr ⟨x, hx, hi⟩
  · rintro (h | ⟨x, hx, hi⟩)
    · exact ⟨_, List.mem_cons_self, h⟩
    · exact ⟨x, List.mem_cons_of_mem _ hx, hi⟩
theorem owns_sl {A : Option Addr} {n c sz : Nat} {xs : List Value} {i : Nat} : owns (eSl A n c sz xs :: L) i ↔ owns L i := by
  constructor
  · rintro ⟨x, hx, hi⟩
    rcases List.mem_cons.1 hx with rfl | hx
    · exact hi.elim
    · exact ⟨x, hx, hi⟩
  · rintro ⟨x, hx, hi⟩
    exact ⟨x, List.mem_cons_of_mem _ hx, hi⟩
/-- All that the parts own lies from one place to another. -/
theorem St.owns_lt (h : St S w0 w L) {i : Nat} (hi : owns L i) : i < w.heap.size ∧ (S i ∨ w0.heap.size ≤ i) := by
  obtain ⟨x, hx, hi⟩ := hi
  exact ⟨x.lt (h.holds x hx) i (.inl hi), h.foot x hx i hi⟩
/-- A variable whole, as it is read. -/
theorem Blk.slv {g n : Nat} {t : TypeId} {xs : List Value} (h : Blk w g t xs.toArray) (hn : xs.length = n) : Sl w (some ⟨g, 0, none⟩) 1 1 n xs :=
  ⟨by rw [hn, Nat.one_mul], Nat.le_refl _, by simp [maxLen], fun _ => ⟨g, 0, rfl, h.lt, fun i u hu => by rw [Nat.zero_add, h.cell]; simpa using hu⟩⟩
end
theorem Sl.elemAt {α : Type} {w : World} {b off n c sz : Nat} {l : List α} {f : α → List Value} (h : Sl w (some ⟨b, off, none⟩) n c sz (l.flatMap f)) (hf : ∀ x, (f x).length = sz) {k : Nat} (hk : k < l.length) (hsz : 0 < sz) : Cells w b (off + k * sz) (f l[k]) := by
  obtain ⟨b', off', e, hc⟩ := h.elem hf hk hsz
  injection e with e
  injection e with e1 e2
  subst e1 e2
  exact hc
theorem St.newVar {W w : World} {g : Nat} {t : TypeId} {xs : List Value} (h : St (fun _ => False) W w [eBlk g t xs]) : Blk w g t xs.toArray ∧ W.heap.size ≤ g :=
  ⟨h.holds (eBlk g t xs) (by simp), (h.foot (eBlk g t xs) (by simp) g rfl).resolve_left id⟩
theorem prefix_next {α : Type} {pre l : List α} {x : α} (h : pre <+: l) (hl : pre.length < l.length) : pre ++ [x] <+: l ↔ x = l[pre.length] := by
  obtain ⟨t, rfl⟩ := h
  cases t with
  | nil => simp at hl
  | cons y t => simp
theorem St.marked {W w2 : World} {L L' : List Ent} {D : Nat} (k : St (owns L) W w2 L') (hK : W.heap[D]? = some (.deferred (some []))) (hD : ∀ i, owns L i → i < D) : w2.heap[D]? = some (.deferred (some [])) := by
  rw [k.step.block D (Array.getElem?_eq_some_iff.1 hK).1 (fun ho => Nat.lt_irrefl _ (hD D ho))]
  exact hK
/-- Behind the return, the block for the rounds' deferred calls being turned. -/
theorem St.put {S : Nat → Prop} {w0 w2 : World} {L : List Ent} {D : Nat} (h : St S w0 w2 L) (hK : w2.heap[D]? = some (.deferred (some []))) (hD : w0.heap.size ≤ D) [Calm L] : St S w0 (w2.putObj D (.deferred none)) L :=
  h.loose (loose_put (B := w0.heap.size) (.deferred none) hD hK rfl) (Nat.le_refl _)
end Go.Proofs.Ytionnlckjjojnaa
