/- Arguments as they read: from the row's reading of a value to the cells that the walks speak of. Program independent. -/
import Derived.Test.YtcmgjoamfjijhaaLib
import Derived.ProofKit
import Derived.OpenShut
import Derived.Deep.Slices
namespace Go.Proofs.Ytcmgjoamfjijhaa
open Go.RowKit Go.ChangeShapes Go.WideShapes Go.Deep

/-- Whatever cells read as data of type t fulfil R. -/
def Opens (P : Program) (w : World) (t : TypeId) (R : List Value → Prop) : Prop :=
  ∀ (H : Type) (enc : TypeId × Value → H) (base : Nat) (spare : Nat → Bool) (held : Bool) (fuel : Nat) (cs : List Value) (x : DataW H × List MemPlace), DataW.trod enc P w base spare held fuel t cs = some x → R cs

section
variable {P : Program} {w : World} {t e : TypeId}

theorem Opens.mono {R R' : List Value → Prop} (h : Opens P w t R) (hr : ∀ cs, R cs → R' cs) : Opens P w t R' := fun H enc base spare held fuel cs x hx => hr _ (h H enc base spare held fuel cs x hx)
theorem opens_int {k : IntKind} (ht : P.underlying t = some (.int k)) : Opens P w t (fun cs => ∃ n, cs = [.int k n] ∧ (Lit.int k n).wf = true) :=
  fun _ _ _ _ _ _ _ _ h => let ⟨n, h1, _, h2⟩ := DataW.trod_int ht h; ⟨n, h1, h2⟩
theorem opens_bool (ht : P.underlying t = some .bool) : Opens P w t (fun cs => ∃ b, cs = [.bool b]) :=
  fun _ _ _ _ _ _ _ _ h => let ⟨n, h1, _⟩ := DataW.trod_bool ht h; ⟨n, h1⟩
theorem opens_string (ht : P.underlying t = some .string) : Opens P w t (fun cs => ∃ l : List UInt8, cs = [.string (str l)] ∧ l.length ≤ maxLen) :=
  fun _ _ _ _ _ _ _ _ h => let ⟨n, h1, _, h2⟩ := DataW.trod_string ht h; ⟨n.data.toList, by rw [h1, ← str_of], by rw [← str_size, ← str_of]; exact h2⟩
theorem opens_u8 (ht : P.underlying t = some (.int .u8)) : Opens P w t (fun cs => ∃ x : UInt8, cs = [u8v x]) :=
  (opens_int ht).mono fun cs ⟨n, h, hw⟩ => by
    have hb := bounds_u8 hw
    refine ⟨UInt8.ofNat n.toNat, ?_⟩
    rw [h, u8v, UInt8.toNat_ofNat']
    congr 2
    have : n.toNat % 2 ^ 8 = n.toNat := Nat.mod_eq_of_lt (by omega)
    rw [this]
    omega

theorem flatten_single {α : Type} (f : α → Value) : ∀ l : List α, (l.map fun x => [f x]).flatten = l.map f
  | [] => rfl
  | _ :: l => by simp [flatten_single f l]

theorem flatten_of_chunks {sz : Nat} : ∀ (n : Nat) (cs : List Value), cs.length = n * sz → cs = ((List.range n).map fun i => (cs.drop (i * sz)).take sz).flatten
  | 0, cs, h => by simp at h; simp [h]
  | n + 1, cs, h => by
    rw [List.range_succ_eq_map]
    simp only [List.map_cons, List.flatten_cons, List.map_map, Nat.zero_mul, List.drop_zero]
    have ih := flatten_of_chunks (sz := sz) n (cs.drop sz) (by rw [List.length_drop, h, Nat.succ_mul]; omega)
    have e : ((fun i => (cs.drop (i * sz)).take sz) ∘ Nat.succ) = fun i => ((cs.drop sz).drop (i * sz)).take sz := by
      funext i
      simp only [Function.comp, List.drop_drop, Nat.succ_mul]
      congr 2
      omega
    rw [e, ← ih, List.take_append_drop]

theorem opens_array {n sz : Nat} {R : List Value → Prop} (ht : P.underlying t = some (.array n e)) (hc : P.cellsOf e = sz) (hn : P.cellsOf t = n * sz) (he : Opens P w e R) :
    Opens P w t (fun cs => ∃ xss : List (List Value), xss.length = n ∧ (∀ xs ∈ xss, R xs) ∧ cs = xss.flatten) := by
  intro H enc base spare held fuel cs x h
  obtain ⟨xs, m, _, _, hl, hlen, hf⟩ := DataW.trod_array ht h
  rw [hc] at hf
  refine ⟨(List.range n).map fun i => (cs.drop (i * sz)).take sz, by simp, ?_, flatten_of_chunks (sz := sz) n cs (by omega)⟩
  intro ys hys
  simp only [List.mem_map, List.mem_range] at hys
  obtain ⟨i, hi, rfl⟩ := hys
  have h1 := hf i hi
  rw [List.getElem?_eq_getElem (by omega)] at h1
  exact he H enc base spare held m _ _ h1

theorem opens_bytes_array {n : Nat} (ht : P.underlying t = some (.array n e)) (he : P.underlying e = some (.int .u8)) (hc : P.cellsOf e = 1) (hn : P.cellsOf t = n) :
    Opens P w t (fun cs => ∃ l : List UInt8, l.length = n ∧ cs = u8s l) :=
  (opens_array ht hc (by omega) (opens_u8 he)).mono fun cs ⟨xss, hl, hx, hcs⟩ => by
    subst hcs
    have key : ∀ (xss : List (List Value)), (∀ xs ∈ xss, ∃ x, xs = [u8v x]) → ∃ l : List UInt8, l.length = xss.length ∧ xss.flatten = u8s l := by
      intro xss
      induction xss with
      | nil => intro _; exact ⟨[], rfl, rfl⟩
      | cons xs xss ih =>
        intro hx
        obtain ⟨y, rfl⟩ := hx xs (by simp)
        obtain ⟨l, h1, h2⟩ := ih (fun zs hz => hx zs (by simp [hz]))
        exact ⟨y :: l, by simp [h1], by simp [h2, u8s]⟩
    obtain ⟨l, h1, h2⟩ := key xss hx
    exact ⟨l, by omega, h2⟩

def FieldsR : List (List Value → Prop) → List Value → Prop
  | [], cs => cs = []
  | R :: Rs, cs => ∃ a b, cs = a ++ b ∧ R a ∧ FieldsR Rs b

def contig (P : Program) : Nat → List Field → Bool
  | _, [] => true
  | off, f :: r => f.offset == off && contig P (off + P.cellsOf f.type) r
def OpensAll (P : Program) (w : World) : List Field → List (List Value → Prop) → Prop
  | [], [] => True
  | f :: fs, R :: Rs => Opens P w f.type R ∧ OpensAll P w fs Rs
  | _, _ => False
def sumCells (P : Program) (fs : List Field) : Nat := (fs.map fun f => P.cellsOf f.type).sum

theorem fields_of {H : Type} {enc : TypeId × Value → H} {base : Nat} {spare : Nat → Bool} {held : Bool} {n : Nat} (cs : List Value) : ∀ (fs : List Field) (Rs : List (List Value → Prop)) (off : Nat), contig P off fs = true → OpensAll P w fs Rs →
    (∀ f ∈ fs, ∃ x, DataW.trod enc P w base spare held n f.type ((cs.drop f.offset).take (P.cellsOf f.type)) = some x) → FieldsR Rs ((cs.drop off).take (sumCells P fs))
  | [], [], off, _, _, _ => by simp [FieldsR, sumCells]
  | [], _ :: _, _, _, h, _ => h.elim
  | _ :: _, [], _, _, h, _ => h.elim
  | f :: fs, R :: Rs, off, hc, ho, hx => by
    simp only [contig, Bool.and_eq_true, beq_iff_eq] at hc
    obtain ⟨hoff, hc⟩ := hc
    obtain ⟨x, h1⟩ := hx f (by simp)
    refine ⟨(cs.drop off).take (P.cellsOf f.type), ((cs.drop (off + P.cellsOf f.type)).take (sumCells P fs)), ?_, ?_, fields_of cs fs Rs _ hc ho.2 (fun g hg => hx g (by simp [hg]))⟩
    · rw [show sumCells P (f :: fs) = P.cellsOf f.type + sumCells P fs by simp [sumCells], ← List.drop_drop, List.take_add]
    · exact ho.1 H enc base spare held n _ _ (by rw [hoff] at h1; exact h1)

theorem opens_struct {fs : Array Field} {Rs : List (List Value → Prop)} (ht : P.underlying t = some (.struct fs)) (hc : contig P 0 fs.toList = true) (hs : P.cellsOf t = sumCells P fs.toList) (ho : OpensAll P w fs.toList Rs) :
    Opens P w t (FieldsR Rs) := by
  intro H enc base spare held fuel cs x h
  obtain ⟨xs, n, _, _, hl, hlen, hf⟩ := DataW.trod_struct ht h
  have := fields_of (P := P) (w := w) (enc := enc) (base := base) (spare := spare) (held := held) (n := n) cs fs.toList Rs 0 hc ho (fun f hf' => by
    obtain ⟨i, hi, rfl⟩ := List.getElem_of_mem hf'
    have hi' : i < fs.size := by simpa using hi
    have h1 := hf i fs[i] (Array.getElem?_eq_getElem hi')
    rw [List.getElem?_eq_getElem (by omega)] at h1
    exact ⟨_, by simpa using h1⟩)
  rw [List.drop_zero, List.take_of_length_le (by omega)] at this
  exact this

theorem opens_slice {sz : Nat} {R : List Value → Prop} (ht : P.underlying t = some (.slice e)) (hc : P.cellsOf e = sz) (he : Opens P w e R) :
    Opens P w t (fun cs => ∃ (A : Option Addr) (n c : Nat) (xss : List (List Value)), cs = [.slice A n c] ∧ xss.length = n ∧ (∀ xs ∈ xss, R xs ∧ xs.length = sz) ∧ Sl w A n c sz xss.flatten) := by
  intro H enc base spare held fuel cs x h
  rcases open_slice ht h with ⟨rfl, _⟩ | ⟨a, len, cap, m, n, D, Pl, rfl, hb, hl, hm, hmm, _, hi⟩
  · exact ⟨none, 0, 0, [], rfl, rfl, by simp, Sl.nil _ _⟩
  · rw [hc] at hi
    have hlm : len ≤ m := by rw [hmm]; split <;> omega
    have hx : ∃ xss : List (List Value), xss.length = len ∧ ∀ i (h : i < xss.length), w.cells? base (a.add (i * sz)) sz = some xss[i] ∧ R xss[i] := by
      have h1 : ∀ i, ∃ cs', i < len → w.cells? base (a.add (i * sz)) sz = some cs' ∧ R cs' := fun i => by
        by_cases h' : i < len
        · obtain ⟨cs', h1, h2⟩ := hi i (by omega)
          exact ⟨cs', fun _ => ⟨h1, he _ _ _ _ _ _ _ _ h2⟩⟩
        · exact ⟨[], fun h'' => absurd h'' h'⟩
      obtain ⟨f, hf⟩ := Classical.axiomOfChoice h1
      exact ⟨(List.range len).map f, by simp, fun i h => by simp at h; simpa using hf i h⟩
    obtain ⟨xss, hlen, hxs⟩ := hx
    have hsz : ∀ xs ∈ xss, xs.length = sz := fun xs h => by
      obtain ⟨i, hi', rfl⟩ := List.getElem_of_mem h
      exact (World.cells?_some (hxs i hi').1).2.1
    have hfl : ∀ (yss : List (List Value)), (∀ ys ∈ yss, ys.length = sz) → yss.flatten.length = yss.length * sz := by
      intro yss hy
      induction yss with
      | nil => simp
      | cons ys yss ih => simp only [List.flatten_cons, List.length_append, List.length_cons, Nat.succ_mul, hy ys (by simp), ih (fun z hz => hy z (by simp [hz]))]; omega
    refine ⟨some a, len, cap, xss, rfl, hlen, fun xs h => ?_, ?_, hl, hm, fun hne => ?_⟩
    · obtain ⟨i, hi', rfl⟩ := List.getElem_of_mem h
      exact ⟨(hxs i hi').2, hsz _ h⟩
    · rw [hfl xss hsz, hlen]
    · have hcell : ∀ j u, xss.flatten[j]? = some u → w.cell? (a.add j) = some u := by
        intro j u hu
        have key : ∀ (yss : List (List Value)) (k : Nat), (∀ ys ∈ yss, ys.length = sz) → (∀ i (h : i < yss.length), ∀ q, q < sz → w.cell? (a.add ((k + i) * sz + q)) = yss[i][q]?) → ∀ j u, yss.flatten[j]? = some u → w.cell? (a.add (k * sz + j)) = some u := by
          intro yss
          induction yss with
          | nil => intro k _ _ j u h; simp at h
          | cons ys yss ih =>
            intro k hs hc j u h
            have hys := hs ys (by simp)
            by_cases hj : j < sz
            · have h0 := hc 0 (by simp) j hj
              simp only [Nat.add_zero, List.getElem_cons_zero] at h0
              rw [h0]
              rw [List.flatten_cons, List.getElem?_append_left (by omega)] at h
              exact h
            · have h2 := ih (k + 1) (fun z hz => hs z (by simp [hz])) (fun i hi q hq => by
                have := hc (i + 1) (by simp; omega) q hq
                rw [show k + 1 + i = k + (i + 1) by omega]
                simpa using this) (j - sz) u (by rw [List.flatten_cons, List.getElem?_append_right (by omega), hys] at h; exact h)
              rw [show k * sz + j = (k + 1) * sz + (j - sz) by rw [Nat.succ_mul]; omega]
              exact h2
        have := key xss 0 hsz (fun i h q hq => by
          have h1 := (World.cells?_some (hxs i h).1).2.2 q hq
          rw [← h1, Nat.zero_add]
          exact congrArg _ (Go.Deep.add_add a (i * sz) q).symm) j u hu
        simpa using this
      obtain ⟨b, off, spot⟩ := a
      have h0 : ∃ u, xss.flatten[0]? = some u := ⟨_, List.getElem?_eq_getElem (List.length_pos_iff.2 hne)⟩
      obtain ⟨u, hu⟩ := h0
      have hc0 := hcell 0 u hu
      have hspot : spot = none := by simpa [Addr.add] using World.cell?_spot hc0
      subst hspot
      refine ⟨b, off, rfl, ?_, fun i u hu => ?_⟩
      · have := World.block_lt_of_cell? w _ hc0
        simpa [Addr.add] using this
      · have := hcell i u hu
        rwa [add_none] at this
end

/-- A list all of whose members come out of something. -/
theorem list_choose {α β : Type} {f : β → α} {q : β → Prop} : ∀ (l : List α), (∀ x ∈ l, ∃ y, x = f y ∧ q y) → ∃ m : List β, l = m.map f ∧ ∀ y ∈ m, q y
  | [], _ => ⟨[], rfl, by simp⟩
  | x :: l, h => by
    obtain ⟨y, rfl, hy⟩ := h x (by simp)
    obtain ⟨m, rfl, hm⟩ := list_choose l (fun z hz => h z (by simp [hz]))
    exact ⟨y :: m, rfl, by simpa using ⟨hy, hm⟩⟩

section
variable {P : Program} {w : World} {t e : TypeId}
theorem opens_bytes (ht : P.underlying t = some (.slice e)) (he : P.underlying e = some (.int .u8)) (hc : P.cellsOf e = 1) :
    Opens P w t (fun cs => ∃ A n c l, cs = [.slice A n c] ∧ Sl w A n c 1 (u8s l)) :=
  (opens_slice ht hc (opens_u8 he)).mono fun cs ⟨A, n, c, xss, h1, _, h3, h4⟩ => by
    obtain ⟨m, rfl, _⟩ := list_choose (f := fun x => [u8v x]) (q := fun _ => True) xss (fun x hx => let ⟨y, hy⟩ := (h3 x hx).1; ⟨y, hy, trivial⟩)
    refine ⟨A, n, c, m, h1, ?_⟩
    have : (m.map fun x => [u8v x]).flatten = u8s m := flatten_single _ m
    rwa [this] at h4
theorem opens_strs (ht : P.underlying t = some (.slice e)) (he : P.underlying e = some .string) (hc : P.cellsOf e = 1) :
    Opens P w t (fun cs => ∃ (A : Option Addr) (n c : Nat) (l : List (List UInt8)), cs = [.slice A n c] ∧ (∀ x ∈ l, x.length ≤ maxLen) ∧ Sl w A n c 1 (strs l)) :=
  (opens_slice ht hc (opens_string he)).mono fun cs ⟨A, n, c, xss, h1, _, h3, h4⟩ => by
    obtain ⟨m, rfl, hm⟩ := list_choose (f := fun x => [strv x]) (q := fun x => x.length ≤ maxLen) xss (fun x hx => (h3 x hx).1)
    refine ⟨A, n, c, m, h1, hm, ?_⟩
    have : (m.map fun x => [strv x]).flatten = strs m := flatten_single _ m
    rwa [this] at h4
/-- Numbers as cells. -/
def ints (k : IntKind) (l : List Int) : List Value := l.map (Value.int k)
theorem opens_ints {k : IntKind} (ht : P.underlying t = some (.slice e)) (he : P.underlying e = some (.int k)) (hc : P.cellsOf e = 1) :
    Opens P w t (fun cs => ∃ A n c l, cs = [.slice A n c] ∧ (∀ x ∈ l, (Lit.int k x).wf = true) ∧ Sl w A n c 1 (ints k l)) :=
  (opens_slice ht hc (opens_int he)).mono fun cs ⟨A, n, c, xss, h1, _, h3, h4⟩ => by
    obtain ⟨m, rfl, hm⟩ := list_choose (f := fun x => [Value.int k x]) (q := fun x => (Lit.int k x).wf = true) xss (fun x hx => (h3 x hx).1)
    refine ⟨A, n, c, m, h1, hm, ?_⟩
    have : (m.map fun x => [Value.int k x]).flatten = ints k m := flatten_single _ m
    rwa [this] at h4
end

section
variable {H : Type} {enc : TypeId × Value → H} {P : Program} {w : World} {base : Nat} {spare : Nat → Bool} {held : Bool} {r : Reach} {b0 : Nat} {t e : TypeId} {v : Value} {d : DataW H} {ps : List MemPlace}
theorem read_of {R : List Value → Prop} (ho : Opens P w t R) (h : DataW.Trod enc P w base spare held t v d ps) : R v.cells.toList := by
  obtain ⟨fuel, hf⟩ := h
  exact ho H enc base spare held fuel _ _ hf
theorem arg_bytes (ht : P.underlying t = some (.slice e)) (he : P.underlying e = some (.int .u8)) (hc : P.cellsOf e = 1) (hv : Value.okWide P w r b0 t v) (h : DataW.Trod enc P w base spare held t v d ps) :
    ∃ A n c l, v = .slice A n c ∧ Sl w A n c 1 (u8s l) := by
  obtain ⟨a, len, cap, rfl⟩ := okWide_slice ht hv
  obtain ⟨A, n, c, l, h1, h2⟩ := read_of (opens_bytes ht he hc) h
  simp [Value.cells] at h1
  obtain ⟨rfl, rfl, rfl⟩ := h1
  exact ⟨_, _, _, l, rfl, h2⟩
theorem arg_ints {k : IntKind} (ht : P.underlying t = some (.slice e)) (he : P.underlying e = some (.int k)) (hc : P.cellsOf e = 1) (hv : Value.okWide P w r b0 t v) (h : DataW.Trod enc P w base spare held t v d ps) :
    ∃ A n c l, v = .slice A n c ∧ (∀ x ∈ l, (Lit.int k x).wf = true) ∧ Sl w A n c 1 (ints k l) := by
  obtain ⟨a, len, cap, rfl⟩ := okWide_slice ht hv
  obtain ⟨A, n, c, l, h1, h2, h3⟩ := read_of (opens_ints ht he hc) h
  simp [Value.cells] at h1
  obtain ⟨rfl, rfl, rfl⟩ := h1
  exact ⟨_, _, _, l, rfl, h2, h3⟩
theorem arg_strs (ht : P.underlying t = some (.slice e)) (he : P.underlying e = some .string) (hc : P.cellsOf e = 1) (hv : Value.okWide P w r b0 t v) (h : DataW.Trod enc P w base spare held t v d ps) :
    ∃ A n c l, v = .slice A n c ∧ (∀ x ∈ l, x.length ≤ maxLen) ∧ Sl w A n c 1 (strs l) := by
  obtain ⟨a, len, cap, rfl⟩ := okWide_slice ht hv
  obtain ⟨A, n, c, l, h1, h2, h3⟩ := read_of (opens_strs ht he hc) h
  simp [Value.cells] at h1
  obtain ⟨rfl, rfl, rfl⟩ := h1
  exact ⟨_, _, _, l, rfl, h2, h3⟩
theorem arg_int {k : IntKind} (ht : P.underlying t = some (.int k)) (hv : Value.okWide P w r b0 t v) (h : DataW.Trod enc P w base spare held t v d ps) : ∃ x, v = .int k x ∧ (Lit.int k x).wf = true := by
  obtain ⟨x, rfl, _, _, hw⟩ := open_int ht hv h
  exact ⟨x, rfl, hw⟩
theorem arg_bool (ht : P.underlying t = some .bool) (hv : Value.okWide P w r b0 t v) (h : DataW.Trod enc P w base spare held t v d ps) : ∃ x, v = .bool x := by
  obtain ⟨x, rfl, _, _⟩ := open_bool ht hv h
  exact ⟨x, rfl⟩
theorem arg_string (ht : P.underlying t = some .string) (hv : Value.okWide P w r b0 t v) (h : DataW.Trod enc P w base spare held t v d ps) : ∃ l : List UInt8, v = .string (str l) ∧ l.length ≤ maxLen := by
  obtain ⟨x, rfl, _, _, hw⟩ := Go.ChangeMaps.open_string ht hv h
  exact ⟨x.data.toList, by rw [← str_of], by rw [← str_size, ← str_of]; exact hw⟩
/-- An array or a struct by value. -/
theorem arg_agg {R : List Value → Prop} (ht : (∃ fs, P.underlying t = some (.struct fs)) ∨ ∃ n e, P.underlying t = some (.array n e)) (ho : Opens P w t R) (hv : Value.okWide P w r b0 t v) (h : DataW.Trod enc P w base spare held t v d ps) :
    ∃ cs : List Value, v = .agg cs.toArray ∧ R cs := by
  have hc : ∃ cs, v = .agg cs := by
    rcases ht with ⟨fs, ht⟩ | ⟨n, e, ht⟩
    · obtain ⟨cs, h, _⟩ := okWide_struct ht hv; exact ⟨cs, h⟩
    · simp only [Value.okWide, ht] at hv
      obtain ⟨cs, h, _⟩ := hv; exact ⟨cs, h⟩
  obtain ⟨cs, rfl⟩ := hc
  exact ⟨cs.toList, by simp, by simpa [Value.cells] using read_of ho h⟩
end

end Go.Proofs.Ytcmgjoamfjijhaa
