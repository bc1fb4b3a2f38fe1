/- Words for memory that the walks of this seat share: a slice that reads as a list, a row of the call's own, a step that turns certain blocks alone; append, conversion and whole loads over these words. Program independent. -/
import Derived.WalkKit
import Derived.Deep.AppendLies
import Derived.Maps.AppendAt
import Derived.Lib.Hide
import Derived.Deep.Draws
import Derived.Deep.QuietTactic
import Derived.BigQuiet
import Derived.WalkLawsBesides
import Derived.WalkSpells
import Derived.Outline
import Derived.WideShapes
import Derived.Deep.DeepCutAuto
namespace Go.Proofs.Ytcmgjoamfjijhaa
open Go.RowKit

/-- The block that a slice's address names. -/
def At (A : Option Addr) (k : Nat) : Prop := ∃ a, A = some a ∧ a.block = k

/-- The block of a slice of n elements; none where there is none. -/
def Ft (A : Option Addr) (n k : Nat) : Prop := 0 < n ∧ At A k
theorem Ft.at_ {A : Option Addr} {n k : Nat} (h : Ft A n k) : At A k := h.2
theorem at_nil {k : Nat} (h : At none k) : False := by obtain ⟨a, h, _⟩ := h; cases h
theorem ft_nil {n k : Nat} (h : Ft none n k) : False := at_nil h.2
theorem ft_zero {A : Option Addr} {k : Nat} (h : Ft A 0 k) : False := by have := h.1; omega

/-- From w to w' nothing has turned but blocks of S, and what is new. -/
structure Step (S : Nat → Prop) (w w' : World) : Prop where
  os : w'.os = w.os
  tape : w'.tape = w.tape
  output : w'.output = w.output
  size : w.heap.size ≤ w'.heap.size
  block : ∀ k, k < w.heap.size → ¬ S k → w'.heap[k]? = w.heap[k]?

theorem Step.refl (S : Nat → Prop) (w : World) : Step S w w := ⟨rfl, rfl, rfl, Nat.le_refl _, fun _ _ _ => rfl⟩
theorem Step.trans {S T : Nat → Prop} {a b c : World} (h : Step S a b) (k : Step T b c) (hT : ∀ i, i < a.heap.size → T i → S i) : Step S a c :=
  ⟨k.os.trans h.os, k.tape.trans h.tape, k.output.trans h.output, Nat.le_trans h.size k.size,
    fun i hi hs => (k.block i (Nat.lt_of_lt_of_le hi h.size) (fun ht => hs (hT i hi ht))).trans (h.block i hi hs)⟩
theorem Step.tr {S : Nat → Prop} {a b c : World} (h : Step S a b) (k : Step S b c) : Step S a c := h.trans k fun _ _ h => h
theorem Step.mono {S T : Nat → Prop} {a b : World} (h : Step S a b) (hT : ∀ i, i < a.heap.size → S i → T i) : Step T a b :=
  ⟨h.os, h.tape, h.output, h.size, fun i hi ht => h.block i hi (fun hs => ht (hT i hi hs))⟩
theorem Step.drew {S : Nat → Prop} {a b : World} (h : Step S a b) : Step S a b.drew := ⟨h.os, h.tape, h.output, h.size, h.block⟩
theorem Step.drewN {S : Nat → Prop} {a b : World} (h : Step S a b) (n : Nat) : Step S a (b.drewN n) := ⟨h.os, h.tape, h.output, h.size, h.block⟩
theorem Step.alloc {S : Nat → Prop} {a b : World} (h : Step S a b) (o : Obj) : Step S a (b.alloc o) :=
  ⟨h.os, h.tape, h.output, Nat.le_trans h.size (by simp), fun i hi hs => (Below.heap_alloc b o i (Nat.lt_of_lt_of_le hi h.size)).trans (h.block i hi hs)⟩
theorem Step.setCell {S : Nat → Prop} {a b : World} (h : Step S a b) {p : Addr} (hp : S p.block ∨ a.heap.size ≤ p.block) (u : Value) : Step S a (b.setCell p u) :=
  ⟨h.os, h.tape, h.output, by simpa [World.setCell] using h.size, fun i hi hs => (Below.heap_setCell b p u i (by
    rintro rfl
    rcases hp with hp | hp
    · exact hs hp
    · omega)).trans (h.block i hi hs)⟩
theorem Step.set1 (w : World) (g i : Nat) (u : Value) : Step (fun k => k = g) w (w.setCell ⟨g, i, none⟩ u) := Step.setCell (S := fun k => k = g) (Step.refl _ _) (p := ⟨g, i, none⟩) (.inl rfl) u
theorem Step.of_below {w w' : World} (h : Below w.heap.size w w') (S : Nat → Prop) : Step S w w' := ⟨h.os, h.tape, h.output, h.size, fun i hi _ => h.block i hi⟩
theorem Step.below {w w' : World} (h : Step (fun _ => False) w w') : Below w.heap.size w w' := ⟨h.os, h.tape, h.output, h.size, fun i hi => h.block i hi (fun e => e)⟩
theorem Step.belowB {S : Nat → Prop} {B : Nat} {w w' : World} (h : Step S w w') (hB : B ≤ w.heap.size) (hs : ∀ k, k < B → ¬ S k) : Below B w w' := ⟨h.os, h.tape, h.output, h.size, fun i hi => h.block i (Nat.lt_of_lt_of_le hi hB) (hs i hi)⟩
theorem Step.cell {S : Nat → Prop} {w w' : World} (h : Step S w w') {p : Addr} {v : Value} (hc : w.cell? p = some v) (hs : ¬ S p.block) : w'.cell? p = some v :=
  (World.cell?_of_block (h.block p.block (World.block_lt_of_cell? w p hc) hs)).trans hc

theorem add_none (b o n : Nat) : (⟨b, o, none⟩ : Addr).add n = ⟨b, o + n, none⟩ := by
  unfold Addr.add; split <;> simp_all

/-- Block g is just the cells cs of element type t, none frozen. -/
def Blk (w : World) (g : Nat) (t : TypeId) (cs : Array Value) : Prop := w.heap[g]? = some (.cells cs t (0, 0))

section
variable {w w' : World} {g : Nat} {t : TypeId} {cs : Array Value}
theorem Blk.lt (h : Blk w g t cs) : g < w.heap.size := (Array.getElem?_eq_some_iff.1 h).1
theorem Blk.cell (h : Blk w g t cs) (i : Nat) : w.cell? ⟨g, i, none⟩ = cs[i]? := cell_of_row w g i cs t (0, 0) h
theorem Blk.frozen (h : Blk w g t cs) (i : Nat) : w.frozen? ⟨g, i, none⟩ = false := by unfold Blk at h; simp [World.frozen?, h]
theorem Blk.new (w : World) (t : TypeId) (cs : Array Value) : Blk (w.alloc (.cells cs t)) w.heap.size t cs := heap_alloc_new w _
theorem Blk.drew (h : Blk w g t cs) : Blk w.drew g t cs := h
theorem Blk.drewN (h : Blk w g t cs) (n : Nat) : Blk (w.drewN n) g t cs := h
theorem Blk.alloc (h : Blk w g t cs) (o : Obj) : Blk (w.alloc o) g t cs := (Below.heap_alloc w o g h.lt).trans h
theorem Blk.set_ (h : Blk w g t cs) (i : Nat) (u : Value) : Blk (w.setCell ⟨g, i, none⟩ u) g t (cs.setIfInBounds i u) := by
  unfold Blk at h ⊢
  simp [World.setCell, Array.getElem?_modify, h]
theorem Blk.far (h : Blk w g t cs) {p : Addr} (hp : g ≠ p.block) (u : Value) : Blk (w.setCell p u) g t cs := (Below.heap_setCell w p u g hp).trans h
theorem Blk.step {S : Nat → Prop} (h : Blk w g t cs) (hs : Step S w w') (hg : ¬ S g) : Blk w' g t cs := (hs.block g h.lt hg).trans h
theorem Blk.ne_ {g' : Nat} {t' : TypeId} {cs' : Array Value} (h : Blk w g t cs) (h' : Blk w g' t' cs') (hne : t ≠ t') : g ≠ g' := by
  rintro rfl
  unfold Blk at h h'
  rw [h] at h'
  injection h' with h'
  injection h' with _ ht
  exact hne ht
end

/-- The slice value '.slice A n c' holds the cells xs (sz cells each element). -/
structure Sl (w : World) (A : Option Addr) (n c sz : Nat) (xs : List Value) : Prop where
  len : xs.length = n * sz
  le : n ≤ c
  cap : c ≤ maxLen
  rd : xs ≠ [] → ∃ b off, A = some ⟨b, off, none⟩ ∧ b < w.heap.size ∧ ∀ i u, xs[i]? = some u → w.cell? ⟨b, off + i, none⟩ = some u

section
variable {w w' : World} {A : Option Addr} {n c sz : Nat} {xs : List Value}
theorem Sl.nil (w : World) (sz : Nat) : Sl w none 0 0 sz [] := ⟨by simp, Nat.le_refl _, by simp [maxLen], fun h => absurd rfl h⟩
theorem Sl.npos (h : Sl w A n c sz xs) (hx : xs ≠ []) : 0 < n := by
  rcases Nat.eq_zero_or_pos n with rfl | h'
  · exact absurd (List.eq_nil_of_length_eq_zero (by rw [h.len, Nat.zero_mul])) hx
  · exact h'
theorem Sl.step {S : Nat → Prop} (h : Sl w A n c sz xs) (hs : Step S w w') (hd : ∀ k, Ft A n k → ¬ S k) : Sl w' A n c sz xs :=
  ⟨h.len, h.le, h.cap, fun hx => by
    obtain ⟨b, off, e, hb, hc⟩ := h.rd hx
    exact ⟨b, off, e, Nat.lt_of_lt_of_le hb hs.size, fun i u hu => hs.cell (hc i u hu) (hd b ⟨h.npos hx, _, e, rfl⟩)⟩⟩
theorem Sl.ft_lt (h : Sl w A n c sz xs) (hsz : 0 < sz) {k : Nat} (hk : Ft A n k) : k < w.heap.size := by
  obtain ⟨hn, a, rfl, rfl⟩ := hk
  have hx : xs ≠ [] := by
    intro e
    have := h.len
    rw [e] at this
    have h2 := Nat.mul_pos hn hsz
    simp at this
    omega
  obtain ⟨b, off, e, hb, _⟩ := h.rd hx
  injection e with e
  subst e
  exact hb
theorem Sl.keep (h : Sl w A n c sz xs) (hs : Step (fun _ => False) w w') : Sl w' A n c sz xs := h.step hs fun _ _ h => h
theorem Sl.drew (h : Sl w A n c sz xs) : Sl w.drew A n c sz xs := h.keep ((Step.refl _ _).drew)
theorem Sl.alloc (h : Sl w A n c sz xs) (o : Obj) : Sl (w.alloc o) A n c sz xs := h.keep ((Step.refl _ _).alloc o)
theorem Sl.pos (h : Sl w A n c sz xs) (hn : 0 < n * sz) : ∃ b off, A = some ⟨b, off, none⟩ ∧ b < w.heap.size ∧ ∀ i u, xs[i]? = some u → w.cell? ⟨b, off + i, none⟩ = some u :=
  h.rd (by intro e; rw [e] at h; have := h.len; simp at this; omega)
theorem Sl.adds (h : Sl w A n c sz xs) {a : Addr} (e : A = some a) : ∀ j u, xs[j]? = some u → w.cell? (a.add j) = some u := by
  intro j u hu
  have hx : xs ≠ [] := by rintro rfl; simp at hu
  obtain ⟨b, off, e', _, hc⟩ := h.rd hx
  rw [e] at e'
  injection e' with e'
  subst e'
  rw [add_none]
  exact hc j u hu
/-- s[i:j], as the model writes it. -/
theorem Sl.cut (h : Sl w A n c sz xs) {i j m : Nat} (hij : i ≤ j) (hjn : j ≤ n) (hm : m ≤ c) (hjm : j ≤ m) :
    Sl w (if m = i then A else A.map (·.add (i * sz))) (j - i) (m - i) sz ((xs.drop (i * sz)).take ((j - i) * sz)) := by
  refine ⟨?_, by omega, by have := h.cap; omega, fun hx => ?_⟩
  · rw [List.length_take, List.length_drop, h.len]
    have h1 : j * sz ≤ n * sz := Nat.mul_le_mul_right _ hjn
    have h2 : (j - i) * sz = j * sz - i * sz := Nat.sub_mul ..
    omega
  · have hne : i ≠ j := by rintro rfl; simp at hx
    have hxs : xs ≠ [] := by rintro rfl; simp at hx
    obtain ⟨b, off, rfl, hb, hc⟩ := h.rd hxs
    rw [if_neg (by omega)]
    refine ⟨b, off + i * sz, by simp [add_none], hb, fun k u hu => ?_⟩
    rw [List.getElem?_take] at hu
    split at hu
    · rw [List.getElem?_drop] at hu
      rw [Nat.add_assoc]
      exact hc _ u hu
    · cases hu
/-- s[:j], s[:j:m]. -/
theorem Sl.take (h : Sl w A n c sz xs) {j m : Nat} (hjn : j ≤ n) (hm : m ≤ c) (hjm : j ≤ m) : Sl w A j m sz (xs.take (j * sz)) := by
  refine ⟨?_, hjm, by have := h.cap; omega, fun hx => ?_⟩
  · rw [List.length_take, h.len]
    have h1 : j * sz ≤ n * sz := Nat.mul_le_mul_right _ hjn
    omega
  · have hxs : xs ≠ [] := by rintro rfl; simp at hx
    obtain ⟨b, off, rfl, hb, hc⟩ := h.rd hxs
    refine ⟨b, off, rfl, hb, fun k u hu => hc k u ?_⟩
    rw [List.getElem?_take] at hu
    split at hu
    · exact hu
    · cases hu
/-- s[i:]. -/
theorem Sl.drop (h : Sl w A n c sz xs) {i : Nat} (hin : i ≤ n) : Sl w (if c = i then A else A.map (·.add (i * sz))) (n - i) (c - i) sz (xs.drop (i * sz)) := by
  have := h.cut hin (Nat.le_refl n) (Nat.le_refl c) h.le
  rwa [List.take_of_length_le (by rw [List.length_drop, h.len, Nat.sub_mul]; exact Nat.le_refl _)] at this
theorem ft_cut {p : Prop} [Decidable p] {i k m : Nat} (h : Ft (if p then A else A.map (·.add m)) (n - i) k) : Ft A n k := by
  refine ⟨by have := h.1; omega, ?_⟩
  have h := h.2
  split at h
  · exact h
  · obtain ⟨a, e, rfl⟩ := h
    cases A with
    | none => cases e
    | some a' =>
      injection e with e
      subst e
      refine ⟨a', rfl, ?_⟩
      unfold Addr.add; split <;> rfl
theorem at_cut {p : Prop} [Decidable p] {k m : Nat} (h : At (if p then A else A.map (·.add m)) k) : At A k := by
  split at h
  · exact h
  · obtain ⟨a, e, rfl⟩ := h
    cases A with
    | none => cases e
    | some a' =>
      injection e with e
      subst e
      refine ⟨a', rfl, ?_⟩
      unfold Addr.add; split <;> rfl
theorem Sl.at_ (h : Sl w A n c 1 xs) {k : Nat} (hk : k < n) : ∃ b off, A = some ⟨b, off, none⟩ ∧ ∃ u, xs[k]? = some u ∧ w.cell? ⟨b, off + k, none⟩ = some u := by
  obtain ⟨b, off, e, _, hc⟩ := h.pos (by omega)
  have hl : k < xs.length := by have := h.len; omega
  exact ⟨b, off, e, xs[k], List.getElem?_eq_getElem hl, hc k _ (List.getElem?_eq_getElem hl)⟩
end

/-- A row of the call's own: nil, or a block whose first cells are xs. -/
def Own (w : World) (e : TypeId) (sz : Nat) (A : Option Addr) (n c : Nat) (xs : List Value) : Prop := w.ownsRow 0 e sz (.slice A n c) n xs

section
variable {w w' : World} {e : TypeId} {A : Option Addr} {n c sz : Nat} {xs : List Value}
theorem Own.nil (w : World) (e : TypeId) (sz : Nat) : Own w e sz none 0 0 [] := World.ownsRow_nil w 0 e sz
theorem Own.form (h : Own w e sz A n c xs) : (A = none ∧ n = 0 ∧ c = 0 ∧ xs = []) ∨ ∃ g cur, A = some ⟨g, 0, none⟩ ∧ Blk w g e cur ∧ n ≤ c ∧ c ≤ maxLen ∧ cur.size = c * sz ∧ cur.toList.take (n * sz) = xs := by
  rcases h.2 with ⟨hv, hn⟩ | ⟨g, cap, cur, hv, _, hg, h1, h2, h3, h4⟩
  · injection hv with h1 h2 h3
    exact .inl ⟨h1, h2, h3, List.eq_nil_of_length_eq_zero (by rw [h.1, hn, Nat.zero_mul])⟩
  · injection hv with h1' h2' h3'
    subst h1' h3'
    exact .inr ⟨g, cur, rfl, hg, h1, h2, h3, h4⟩
theorem Own.lt (h : Own w e sz A n c xs) : ∀ k, At A k → k < w.heap.size := by
  rintro k ⟨a, rfl, rfl⟩
  rcases h.form with ⟨h', _⟩ | ⟨g, cur, h', hg, _⟩
  · cases h'
  · injection h' with h'; subst h'; exact hg.lt
theorem Own.ne_blk {g : Nat} {t : TypeId} {cs : Array Value} (h : Own w e sz A n c xs) (hb : Blk w g t cs) (hne : e ≠ t) : ¬ At A g := by
  rintro ⟨a, rfl, rfl⟩
  rcases h.form with ⟨h', _⟩ | ⟨g, cur, h', hg, _⟩
  · cases h'
  · injection h' with h'; subst h'; exact hg.ne_ hb hne rfl
theorem Own.sl (h : Own w e sz A n c xs) : Sl w A n c sz xs := by
  rcases h.form with ⟨rfl, rfl, rfl, rfl⟩ | ⟨g, cur, rfl, hg, h1, h2, h3, h4⟩
  · exact Sl.nil w sz
  · refine ⟨h.1, h1, h2, fun _ => ⟨g, 0, rfl, hg.lt, fun i u hu => ?_⟩⟩
    rw [Nat.zero_add, hg.cell]
    rw [← h4, List.getElem?_take] at hu
    split at hu
    · simpa using hu
    · cases hu
theorem Own.step {S : Nat → Prop} (h : Own w e sz A n c xs) (hs : Step S w w') (hd : ∀ k, At A k → ¬ S k) : Own w' e sz A n c xs := by
  refine ⟨h.1, ?_⟩
  rcases h.form with ⟨rfl, rfl, rfl, rfl⟩ | ⟨g, cur, rfl, hg, h1, h2, h3, h4⟩
  · exact .inl ⟨rfl, rfl⟩
  · exact .inr ⟨g, c, cur, rfl, Nat.zero_le _, hg.step hs (hd g ⟨_, rfl, rfl⟩), h1, h2, h3, h4⟩
theorem Own.keep (h : Own w e sz A n c xs) (hs : Step (fun _ => False) w w') : Own w' e sz A n c xs := h.step hs fun _ _ h => h
theorem Own.alloc (h : Own w e sz A n c xs) (o : Obj) : Own (w.alloc o) e sz A n c xs := h.keep ((Step.refl _ _).alloc o)
theorem Own.drew (h : Own w e sz A n c xs) : Own w.drew e sz A n c xs := h
end

theorem ownBlock_at {A : Option Addr} (n c : Nat) {k : Nat} : (Value.slice A n c).ownBlock = some k ↔ At A k := by
  cases A with
  | none => simp [Value.ownBlock, At]
  | some a => simp [Value.ownBlock, At]

/-- An operation whose guard says yes (or that has none: 'rfl' too). -/
theorem wpList_want {P : Program} {ops : Array Oper} {Q : Exit → Act → World → Prop} {a : Act} {w : World} {rest : List Oper} {o : Oper} (hw : Region.wanted o (yielded ops a.tmps) = true)
    (h : ∀ K : Act → World → Prop, (∀ a w, wpList P ops Q rest a w → K a w) → o.wp P a w K Q) : wpList P ops Q (o :: rest) a w :=
  wpList_step fun K hK => by simp only [hw, if_true]; exact h K hK

section
variable {P : Program} (w : World)

theorem run_append_of_nil (t ty e : TypeId) (i : TypeInfo) (sz : Nat) (ht : P.underlying t = some (.slice e)) (hi : P.info? e = some i)
    (A : Option Addr) (n c : Nat) (xs : List Value) (hown : Own w e sz A n c xs) (d : Nat) : (Builtin.append_ #[t, t] ty #[.slice A n c, .slice none 0 d]).run P w = .ok (.slice A n c) w := by
  rcases hown.form with ⟨rfl, rfl, rfl, rfl⟩ | ⟨g, cur, rfl, hg, hnc, _⟩
  · simp [Builtin.append_, run_underlying ht, sizeOf, typeInfo, hi, Builtin.lenOf, Builtin.firstCells]
  · simp [Builtin.append_, run_underlying ht, sizeOf, typeInfo, hi, Builtin.lenOf, Builtin.firstCells, hnc, storeCells]

theorem run_append (t ty e : TypeId) (i : TypeInfo) (z : Value) (sz bytes : Nat) (ht : P.underlying t = some (.slice e)) (hi : P.info? e = some i) (hz : i.zero = some z)
    (hsize : i.size = sz) (hby : i.bytes = bytes) (hzs : z.cells.size = sz) (hsz : 0 < sz)
    (A : Option Addr) (n c : Nat) (xs : List Value) (hown : Own w e sz A n c xs)
    (B : Option Addr) (m d : Nat) (ys : List Value) (hr : Sl w B m d sz ys) (h1 : ∀ u ∈ ys, u.oneCell' = true)
    (h63 : n + m ≤ maxLen) (hbytes : (n + m) * bytes ≤ 140737488355328) :
    ∃ A' c' w', (Builtin.append_ #[t, t] ty #[.slice A n c, .slice B m d]).run P w = .ok (.slice A' (n + m) c') w' ∧ Own w' e sz A' (n + m) c' (xs ++ ys) ∧ Step (At A) w w' ∧
      (∀ k, At A' k → At A k ∨ w.heap.size ≤ k) := by
  by_cases hm : m = 0
  · subst hm
    have hys : ys = [] := List.eq_nil_of_length_eq_zero (by rw [hr.len, Nat.zero_mul])
    subst hys
    rcases B with _ | b
    · exact ⟨A, c, w, run_append_of_nil w t ty e i sz ht hi A n c xs hown d, by simpa using hown, Step.refl _ _, fun k hk => .inl hk⟩
    · obtain ⟨v', w', hrun, h2, h3, _, h5⟩ := run_append_own_at (P := P) w 0 t ty e i z sz bytes ht hi hz hsize hby hzs hsz (.slice A n c) n xs hown b 0 d [] (by simp) (fun j u hu => by simp at hu) h1 h63 hbytes (Nat.zero_le _)
      have hv : ∃ A' c', v' = .slice A' (n + 0) c' := by
        rcases h2.2 with ⟨h, h'⟩ | ⟨g, cap, cur, h, _⟩
        · exact ⟨none, 0, by rw [h, h']⟩
        · exact ⟨_, _, h⟩
      obtain ⟨A', c', rfl⟩ := hv
      exact ⟨A', c', w', hrun, h2, ⟨h3.os, h3.tape, h3.output, h3.size, fun k hk hs => h3.block k hk (fun e => hs ((ownBlock_at _ _).1 e.symm))⟩, fun k hk => by
        rcases h5 with h5 | h5
        · exact .inl ((ownBlock_at n c).1 (h5 ▸ (ownBlock_at _ c').2 hk))
        · have := (ownBlock_at (n + 0) c').2 hk; rw [h5] at this; injection this with this; exact .inr (by omega)⟩
  · obtain ⟨b, off, rfl, _, hc⟩ := hr.pos (Nat.mul_pos (by omega) hsz)
    obtain ⟨v', w', hrun, h2, h3, _, h5⟩ := run_append_own_at (P := P) w 0 t ty e i z sz bytes ht hi hz hsize hby hzs hsz (.slice A n c) n xs hown ⟨b, off, none⟩ m d ys hr.len (hr.adds rfl) h1 h63 hbytes (Nat.zero_le _)
    have hv : ∃ A' c', v' = .slice A' (n + m) c' := by
      rcases h2.2 with ⟨h, h'⟩ | ⟨g, cap, cur, h, _⟩
      · exact ⟨none, 0, by rw [h, h']⟩
      · exact ⟨_, _, h⟩
    obtain ⟨A', c', rfl⟩ := hv
    exact ⟨A', c', w', hrun, h2, ⟨h3.os, h3.tape, h3.output, h3.size, fun k hk hs => h3.block k hk (fun e => hs ((ownBlock_at _ _).1 e.symm))⟩, fun k hk => by
      rcases h5 with h5 | h5
      · exact .inl ((ownBlock_at n c).1 (h5 ▸ (ownBlock_at _ c').2 hk))
      · have := (ownBlock_at (n + m) c').2 hk; rw [h5] at this; injection this with this; exact .inr (by omega)⟩

/-- append at the walk: '(at_builtin; refine wl_append _ rfl s x t rfl e i z sz bytes A.underlyingT hi hz hs hb rfl (by omega) A n c xs rfl hown B m d ys rfl hsrc h1 h63 hbytes ?_; intro A' c' w' hown' hstep hat)'. -/
theorem wl_append {ops : Array Oper} {rest : List Oper} {o : Oper} {a : Act} {Q : Exit → Act → World → Prop} (hgd : Region.wanted o (yielded ops a.tmps) = true) (s x : Operand) (t : TypeId)
    (ho : o.op = .call { callee := .builtin .append, args := #[s, x], argTypes := #[t, t] })
    (e : TypeId) (i : TypeInfo) (z : Value) (sz bytes : Nat) (ht : P.underlying t = some (.slice e)) (hi : P.info? e = some i) (hz : i.zero = some z)
    (hsize : i.size = sz) (hby : i.bytes = bytes) (hzs : z.cells.size = sz) (hsz : 0 < sz)
    (A : Option Addr) (n c : Nat) (xs : List Value) (hs : a.eval s = .slice A n c) (hown : Own w e sz A n c xs)
    (B : Option Addr) (m d : Nat) (ys : List Value) (hx : a.eval x = .slice B m d) (hr : Sl w B m d sz ys) (h1 : ∀ u ∈ ys, u.oneCell' = true)
    (h63 : n + m ≤ maxLen) (hbytes : (n + m) * bytes ≤ 140737488355328)
    (h : ∀ A' c' w', Own w' e sz A' (n + m) c' (xs ++ ys) → Step (At A) w w' → (∀ k, At A' k → At A k ∨ w.heap.size ≤ k) → wpList P ops Q rest (a.put o.dst (.slice A' (n + m) c')) w') : wpList P ops Q (o :: rest) a w := by
  refine wpList_want hgd fun K hK => ?_
  obtain ⟨A', c', w', hrun, h2, h3, h4⟩ := run_append (P := P) w t o.type e i z sz bytes ht hi hz hsize hby hzs hsz A n c xs hown B m d ys hr h1 h63 hbytes
  unfold Oper.wp execOp
  simp only [ho, resolve, invoke, builtin, Sem.run_bind, Sem.run_pure, Result.andThen_ok, List.map_toArray, List.map_cons, List.map_nil, hs, hx, hrun]
  exact hK _ _ (h A' c' w' h2 h3 h4)

/-- append onto nil: a row of its own that is new. -/
theorem wl_append_new {ops : Array Oper} {rest : List Oper} {o : Oper} {a : Act} {Q : Exit → Act → World → Prop} (hgd : Region.wanted o (yielded ops a.tmps) = true) (s x : Operand) (t : TypeId)
    (ho : o.op = .call { callee := .builtin .append, args := #[s, x], argTypes := #[t, t] })
    (e : TypeId) (i : TypeInfo) (z : Value) (sz bytes : Nat) (ht : P.underlying t = some (.slice e)) (hi : P.info? e = some i) (hz : i.zero = some z)
    (hsize : i.size = sz) (hby : i.bytes = bytes) (hzs : z.cells.size = sz) (hsz : 0 < sz) (hs : a.eval s = .slice none 0 0)
    (B : Option Addr) (m d : Nat) (ys : List Value) (hx : a.eval x = .slice B m d) (hr : Sl w B m d sz ys) (h1 : ∀ u ∈ ys, u.oneCell' = true)
    (h63 : m ≤ maxLen) (hbytes : m * bytes ≤ 140737488355328)
    (h : ∀ A' c' w', Own w' e sz A' m c' ys → Step (fun _ => False) w w' → (∀ k, At A' k → w.heap.size ≤ k ∧ k < w'.heap.size) → wpList P ops Q rest (a.put o.dst (.slice A' m c')) w') : wpList P ops Q (o :: rest) a w := by
  refine wl_append w hgd s x t ho e i z sz bytes ht hi hz hsize hby hzs hsz none 0 0 [] hs (Own.nil _ _ _) B m d ys hx hr h1 (by omega) (by simpa using hbytes) ?_
  intro A' c' w' hown hst hat
  rw [Nat.zero_add, List.nil_append] at hown
  rw [Nat.zero_add]
  refine h A' c' w' hown (hst.mono ?_) fun k hk => ⟨?_, hown.lt k hk⟩
  · rintro k _ ⟨a, h, _⟩; cases h
  · rcases hat k hk with ⟨a, h, _⟩ | h
    · cases h
    · exact h
end

/-- Bytes as cells. -/
def u8v (x : UInt8) : Value := .int .u8 (x.toNat : Int)
def u8s (l : List UInt8) : List Value := l.map u8v
theorem u8s_one (l : List UInt8) : ∀ u ∈ u8s l, u.oneCell' = true := by
  intro u hu
  simp only [u8s, List.mem_map] at hu
  obtain ⟨x, _, rfl⟩ := hu
  rfl
theorem u8s_append (l m : List UInt8) : u8s l ++ u8s m = u8s (l ++ m) := by simp [u8s]
theorem u8s_take (l : List UInt8) (n : Nat) : (u8s l).take n = u8s (l.take n) := by simp [u8s]
theorem u8s_drop (l : List UInt8) (n : Nat) : (u8s l).drop n = u8s (l.drop n) := by simp [u8s]
theorem u8s_get (l : List UInt8) (i : Nat) (h : i < l.length) : (u8s l)[i]? = some (u8v l[i]) := by simp [u8s, h]

theorem Sl.n_eq {w : World} {A : Option Addr} {n c : Nat} {l : List UInt8} (h : Sl w A n c 1 (u8s l)) : n = l.length := by
  have := h.len; simp [u8s] at this; omega

/-- A string of the bytes l. -/
def str (l : List UInt8) : ByteArray := ⟨l.toArray⟩
theorem str_size (l : List UInt8) : (str l).size = l.length := by simp [str, ByteArray.size]
theorem str_data (l : List UInt8) : (str l).data.toList = l := by simp [str]
theorem str_of (s : ByteArray) : s = str s.data.toList := rfl
theorem toList_data (s : ByteArray) : s.toList = s.data.toList := by
  exact ByteArray.toList_eq s
theorem str_toList (l : List UInt8) : (str l).toList = l := by rw [toList_data, str_data]

theorem str_extract (l : List UInt8) (a b : Nat) : (str l).extract a b = str ((l.take b).drop a) := by
  apply Go.WideShapes.bytes_inj
  rw [str_data, ByteArray.data_extract]
  simp [str, List.drop_take]
theorem str_get (l : List UInt8) (i : Nat) (h : i < (str l).size) : (str l)[i] = l[i]'(by rw [str_size] at h; exact h) := rfl
theorem run_bytes_string {P : Program} {w : World} {src dst e : TypeId} {A : Option Addr} {n c : Nat} {l : List UInt8} (hs : P.underlying src = some (.slice e)) (he : P.underlying e = some (.int .u8)) (hd : P.underlying dst = some .string)
    (h : Sl w A n c 1 (u8s l)) (k : Nat) : (convert src dst (.slice A n c)).run P (w.drewN k) = .ok (.string (str l)) (w.drewN k) := by
  rw [run_convert_bytes_string _ src dst e A n c hs he hd]
  have hn : n = l.length := by have := h.len; simp [u8s] at this; omega
  subst hn
  cases A with
  | none =>
    have hl : l = [] := by
      rcases l with _ | ⟨x, l⟩
      · rfl
      · obtain ⟨b, off, e, _⟩ := h.pos (by simp)
        cases e
    subst hl
    simp [Conv.bytesToString, str, Sem.run_pure]
    rfl
  | some a =>
    rw [run_bytesToString (w.drewN k) a l.length c (l.map fun b => (b.toNat : Int)) ?_, foldl_push_byteCells]
    · simp [str]
    · have e : (l.map fun b => (b.toNat : Int)).map (Value.int .u8) = u8s l := by rw [List.map_map]; rfl
      rw [e]
      have := run_loadCells_list (P := P) (w.drewN k) a (u8s l) (fun j v hv => by simpa using h.adds rfl j v hv)
      simpa [u8s] using this
/-- The fact for a walk: at this world and behind draws. -/
theorem run_bytes_string0 {P : Program} {w : World} {src dst e : TypeId} {A : Option Addr} {n c : Nat} {l : List UInt8} (hs : P.underlying src = some (.slice e)) (he : P.underlying e = some (.int .u8)) (hd : P.underlying dst = some .string)
    (h : Sl w A n c 1 (u8s l)) : (convert src dst (.slice A n c)).run P w = .ok (.string (str l)) w := run_bytes_string hs he hd h 0

theorem quiet_left {P : Program} {f : FuncId} {args : Array Value} {w : World} {n : Nat} {v : Value}
    (h : Calls P f args (w.drewN n) fun e w' => e = .returned v ∧ w.drewN n = w') : Calls P f args (w.drewN n) fun e w'' => e = .returned v ∧ ∃ m, w'' = w.drewN m :=
  h.mono fun _ _ ⟨he, hm⟩ => ⟨he, n, hm.symm⟩
theorem quiet_add_left {P : Program} {f : FuncId} {args : Array Value} {w : World} {a n : Nat} {v : Value}
    (h : Calls P f args (w.drewN (a + n)) fun e w' => e = .returned v ∧ w.drewN (a + n) = w') :
    Calls P f args (w.drewN (a + n)) fun e w'' => e = .returned v ∧ ∃ m, w'' = w.drewN (a + m) :=
  h.mono fun _ _ ⟨he, hm⟩ => ⟨he, n, hm.symm⟩

/-- Texts as cells. -/
def strv (l : List UInt8) : Value := .string (str l)
def strs (l : List (List UInt8)) : List Value := l.map strv
theorem strs_length (l : List (List UInt8)) : (strs l).length = l.length := by simp [strs]
theorem strs_get (l : List (List UInt8)) {i : Nat} (h : i < l.length) : (strs l)[i]? = some (strv l[i]) := by simp [strs, h]
theorem strs_one (l : List (List UInt8)) : ∀ u ∈ strs l, u.oneCell' = true := by
  intro u hu
  simp only [strs, List.mem_map] at hu
  obtain ⟨x, _, rfl⟩ := hu
  rfl
theorem Sl.n_strs {w : World} {A : Option Addr} {n c : Nat} {l : List (List UInt8)} (h : Sl w A n c 1 (strs l)) : n = l.length := by have := h.len; simp [strs] at this; omega

end Go.Proofs.Ytcmgjoamfjijhaa
