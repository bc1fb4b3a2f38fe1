/- Slices of slices of bytes, as arguments. Program independent. -/
import Derived.Test.YtcmgjoamfjijhaaCB2
import Derived.Test.YtcmgjoamfjijhaaCB1
namespace Go.Proofs.Ytcmgjoamfjijhaa
open Go.RowKit Go.ChangeShapes Go.WideShapes Go.Deep
set_option linter.unusedVariables false

/-- One row: where it lies, what it holds. -/
structure RowAt where
  A : Option Addr
  n : Nat
  c : Nat
  l : List UInt8
def rowc (p : RowAt) : List Value := [.slice p.A p.n p.c]
theorem rowc_length (p : RowAt) : (rowc p).length = 1 := rfl
def RowsIs (w : World) (ps : List RowAt) : Prop := ∀ p ∈ ps, Sl w p.A p.n p.c 1 (u8s p.l)
/-- Rows that are read. -/
def eRows (A : Option Addr) (n c : Nat) (ps : List RowAt) : Ent where
  own _ := False
  rd k := Ft A n k ∨ ∃ p ∈ ps, Ft p.A p.n k
  holds w := Sl w A n c 1 (ps.flatMap rowc) ∧ RowsIs w ps
  isC := true
  lt h k hk := by
    rcases hk with hk | hk | ⟨p, hp, hk⟩
    · exact hk.elim
    · exact h.1.ft_lt (by omega) hk
    · exact (h.2 p hp).ft_lt (by omega) hk
  keep h hs hd := ⟨h.1.step hs fun k hk => hd k (.inr (.inl hk)), fun p hp => (h.2 p hp).step hs fun k hk => hd k (.inr (.inr ⟨p, hp, hk⟩))⟩
  cel e w h k hk o ho := by
    rcases hk with hk | hk | ⟨p, hp, hk⟩
    · exact hk.elim
    · exact (eSl A n c 1 (ps.flatMap rowc)).cel rfl (w := w) ⟨by omega, h.1⟩ k (.inr hk) o ho
    · exact (eSl p.A p.n p.c 1 (u8s p.l)).cel rfl (w := w) ⟨by omega, h.2 p hp⟩ k (.inr hk) o ho
instance Calm.rows (A : Option Addr) (n c : Nat) (ps : List RowAt) (L : List Ent) [k : Calm L] : Calm (eRows A n c ps :: L) := Calm.cons' rfl k
instance (priority := high) HasSl.rows (A : Option Addr) (n c : Nat) (ps : List RowAt) (L : List Ent) : HasSl (eRows A n c ps :: L) A n c 1 (ps.flatMap rowc) := ⟨fun w h => (h (eRows A n c ps) List.mem_cons_self).1⟩
section
variable {S : Nat → Prop} {w0 w : World} {L F : List Ent}
theorem St.addSub {e : Ent} (h : St S w0 w L) [k : Slot L e F] (x : Ent) (hx : x.holds w) (ho : ∀ k, ¬ x.own k) (hr : ∀ k, x.rd k → e.rd k) (he : ∀ k, ¬ e.own k) : St S w0 w (x :: L) := by
  have h1 := h.perm k.perm
  have h2 := List.pairwise_cons.1 h1.apart
  refine ⟨h.step, fun y hy => ?_, fun y hy i hi => ?_, List.pairwise_cons.2 ⟨fun y hy i => ⟨fun hi => (ho i hi).elim, fun hi hy2 => ?_⟩, h.apart⟩⟩
  · rcases List.mem_cons.1 hy with rfl | hy
    · exact hx
    · exact h.holds y hy
  · rcases List.mem_cons.1 hy with rfl | hy
    · exact (ho i hi).elim
    · exact h.foot y hy i hi
  · rcases List.mem_cons.1 (k.perm.mem_iff.1 hy) with rfl | hy
    · exact he i hy2
    · exact (h2.1 y hy i).2 (hr i hi) hy2
/-- One of the rows. -/
theorem St.oneRow (h : St S w0 w L) (A : Option Addr) (n c : Nat) {ps : List RowAt} [k : Slot L (eRows A n c ps) F] {p : RowAt} (hp : p ∈ ps) : St S w0 w (eSl p.A p.n p.c 1 (u8s p.l) :: L) :=
  h.addSub (e := eRows A n c ps) (eSl p.A p.n p.c 1 (u8s p.l)) ⟨by omega, (h.get (e := eRows A n c ps)).2 p hp⟩ (fun _ h => h) (fun i hi => .inr ⟨p, hp, hi⟩) (fun _ h => h)
theorem St.rows0 {A : Option Addr} {n c : Nat} {ps : List RowAt} (hl : Sl w A n c 1 (ps.flatMap rowc)) (hp : RowsIs w ps) : St (fun _ => False) w w [eRows A n c ps] :=
  (St.nil w).addRd (eRows A n c ps) ⟨hl, hp⟩ (fun _ h => h) (fun k hk => ⟨(eRows A n c ps).lt (w := w) ⟨hl, hp⟩ k (.inr hk), id⟩)
end
/-- Rows that can be read. -/
class HasRows (L : List Ent) (A : Option Addr) (n c : Nat) (ps : outParam (List RowAt)) : Prop where
  rows : ∀ w, (∀ x ∈ L, x.holds w) → Sl w A n c 1 (ps.flatMap rowc) ∧ RowsIs w ps
instance (priority := high) HasRows.hit (A : Option Addr) (n c : Nat) (ps : List RowAt) (L : List Ent) : HasRows (eRows A n c ps :: L) A n c ps := ⟨fun w h => h (eRows A n c ps) List.mem_cons_self⟩
instance HasRows.miss (x : Ent) (A : Option Addr) (n c : Nat) (ps : List RowAt) (L : List Ent) [h : HasRows L A n c ps] : HasRows (x :: L) A n c ps := ⟨fun w hw => h.rows w (fun y hy => hw y (List.mem_cons_of_mem _ hy))⟩
theorem St.rowsAt {S : Nat → Prop} {w0 w : World} {L : List Ent} (h : St S w0 w L) (A : Option Addr) (n c : Nat) {ps : List RowAt} [k : HasRows L A n c ps] : Sl w A n c 1 (ps.flatMap rowc) ∧ RowsIs w ps := k.rows w h.holds
theorem HasRows.one {L : List Ent} {A : Option Addr} {n c : Nat} {ps : List RowAt} (k : HasRows L A n c ps) {p : RowAt} (hp : p ∈ ps) : HasSl L p.A p.n p.c 1 (u8s p.l) := ⟨fun w hw => (k.rows w hw).2 p hp⟩
theorem blk_rows {w : World} {g n : Nat} {t : TypeId} {ps : List RowAt} (h : Blk w g t (ps.flatMap rowc).toArray) (hn : ps.length = n) (hm : n ≤ 100000) : Sl w (some ⟨g, 0, none⟩) n n 1 (ps.flatMap rowc) :=
  h.sl_ (by rw [length_flatMap rowc_length, hn, Nat.mul_one]) (by simp [maxLen]; omega)
/-- Rows in a literal. -/
theorem HasRows.lit {L F : List Ent} {g n : Nat} {t : TypeId} (ps : List RowAt) [k : SlotB L g t (ps.flatMap rowc) F] (hn : ps.length = n) (hm : n ≤ 100000) (hp : ∀ p ∈ ps, HasSl L p.A p.n p.c 1 (u8s p.l)) : HasRows L (some ⟨g, 0, none⟩) n n ps :=
  ⟨fun w hw => ⟨blk_rows (hw (eBlk g t (ps.flatMap rowc)) (k.perm.mem_iff.2 List.mem_cons_self)) hn hm, fun p hpp => (hp p hpp).sl w hw⟩⟩
instance HasRows.i1 (L F : List Ent) (g : Nat) (t : TypeId) (A : Option Addr) (n c : Nat) (l : List UInt8) [k : SlotB L g t [.slice A n c] F] [h : HasSl L A n c 1 (u8s l)] : HasRows L (some ⟨g, 0, none⟩) 1 1 [⟨A, n, c, l⟩] :=
  HasRows.lit (F := F) (t := t) [⟨A, n, c, l⟩] (k := k) rfl (by omega) (by simpa using h)
instance HasRows.i2 (L F : List Ent) (g : Nat) (t : TypeId) (A A2 : Option Addr) (n c n2 c2 : Nat) (l l2 : List UInt8) [k : SlotB L g t [.slice A n c, .slice A2 n2 c2] F] [h : HasSl L A n c 1 (u8s l)] [h2 : HasSl L A2 n2 c2 1 (u8s l2)] : HasRows L (some ⟨g, 0, none⟩) 2 2 [⟨A, n, c, l⟩, ⟨A2, n2, c2, l2⟩] :=
  HasRows.lit (F := F) (t := t) [⟨A, n, c, l⟩, ⟨A2, n2, c2, l2⟩] (k := k) rfl (by omega) (by simpa using ⟨h, h2⟩)
instance HasRows.i3 (L F : List Ent) (g : Nat) (t : TypeId) (A A2 A3 : Option Addr) (n c n2 c2 n3 c3 : Nat) (l l2 l3 : List UInt8) [k : SlotB L g t [.slice A n c, .slice A2 n2 c2, .slice A3 n3 c3] F] [h : HasSl L A n c 1 (u8s l)] [h2 : HasSl L A2 n2 c2 1 (u8s l2)] [h3 : HasSl L A3 n3 c3 1 (u8s l3)] :
    HasRows L (some ⟨g, 0, none⟩) 3 3 [⟨A, n, c, l⟩, ⟨A2, n2, c2, l2⟩, ⟨A3, n3, c3, l3⟩] :=
  HasRows.lit (F := F) (t := t) [⟨A, n, c, l⟩, ⟨A2, n2, c2, l2⟩, ⟨A3, n3, c3, l3⟩] (k := k) rfl (by omega) (by simpa using ⟨h, h2, h3⟩)
theorem Sl.n_rows {w : World} {A : Option Addr} {n c : Nat} {ps : List RowAt} (h : Sl w A n c 1 (ps.flatMap rowc)) : n = ps.length := h.n_flat rowc_length (by omega)

/-- So many rows, one behind the other. -/
def catM (ps : List RowAt) (k : Nat) : List UInt8 := (ps.take k).flatMap (·.l)
theorem catM_succ (ps : List RowAt) {k : Nat} (h : k < ps.length) : catM ps (k + 1) = catM ps k ++ (ps[k]).l := by
  rw [catM, List.take_succ_eq_append_getElem h, List.flatMap_append, List.flatMap_cons, List.flatMap_nil, List.append_nil, catM]

section
variable {P : Program} {w : World} {t u e : TypeId}
theorem opens_rows (ht : P.underlying t = some (.slice u)) (hu : P.underlying u = some (.slice e)) (he : P.underlying e = some (.int .u8)) (hc : P.cellsOf u = 1) (hc2 : P.cellsOf e = 1) :
    Opens P w t (fun cs => ∃ (A : Option Addr) (n c : Nat) (ps : List RowAt), cs = [.slice A n c] ∧ Sl w A n c 1 (ps.flatMap rowc) ∧ RowsIs w ps) :=
  (opens_slice ht hc (opens_bytes hu he hc2)).mono fun cs ⟨A, n, c, xss, h1, _, h3, h4⟩ => by
    obtain ⟨m, rfl, hm⟩ := list_choose (f := rowc) (q := fun p => Sl w p.A p.n p.c 1 (u8s p.l)) xss (fun x hx => let ⟨A, n, c, l, h5, h6⟩ := (h3 x hx).1; ⟨⟨A, n, c, l⟩, h5, h6⟩)
    exact ⟨A, n, c, m, h1, by rwa [List.flatMap_def], hm⟩
variable {H : Type} {enc : TypeId × Value → H} {base : Nat} {spare : Nat → Bool} {held : Bool} {r : Reach} {b0 : Nat} {v : Value} {d : DataW H} {pl : List MemPlace}
theorem arg_rows (ht : P.underlying t = some (.slice u)) (hu : P.underlying u = some (.slice e)) (he : P.underlying e = some (.int .u8)) (hc : P.cellsOf u = 1) (hc2 : P.cellsOf e = 1) (hv : Value.okWide P w r b0 t v) (h : DataW.Trod enc P w base spare held t v d pl) :
    ∃ (A : Option Addr) (n c : Nat) (ps : List RowAt), v = .slice A n c ∧ Sl w A n c 1 (ps.flatMap rowc) ∧ RowsIs w ps := by
  obtain ⟨a, len, cap, rfl⟩ := okWide_slice ht hv
  obtain ⟨A, n, c, l, h1, h2⟩ := read_of (opens_rows ht hu he hc hc2) h
  simp [Value.cells] at h1
  obtain ⟨rfl, rfl, rfl⟩ := h1
  exact ⟨_, _, _, l, rfl, h2⟩
end
end Go.Proofs.Ytcmgjoamfjijhaa
