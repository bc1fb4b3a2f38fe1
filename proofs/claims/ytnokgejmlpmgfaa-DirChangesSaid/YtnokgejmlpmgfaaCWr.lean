/- The writer as a part of memory. -/
import Derived.Test.YtnokgejmlpmgfaaCWriter
import Derived.Test.YtnokgejmlpmgfaaCB2
import Derived.Test.YtnokgejmlpmgfaaCTy
namespace Go.Proofs.Ytnokgejmlpmgfaa
open Go.RowKit
set_option linter.unusedVariables false
set_option linter.unusedSimpArgs false

def eWr (g : Nat) (F : Nat → Prop) (q : List UInt8) : Ent where
  own := F
  rd _ := False
  holds w := WrIs w F g q
  isC := false
  lt h k hk := h.lt k (hk.resolve_right id)
  keep h hs hd := h.step hs (fun k hk => hd k (.inl hk))
  cel hc := by cases hc
class SlotW (L : List Ent) (g : Nat) (Fw : outParam (Nat → Prop)) (q : outParam (List UInt8)) (F : outParam (List Ent)) : Prop where
  perm : L.Perm (eWr g Fw q :: F)
instance (priority := high) SlotW.hit (g : Nat) (Fw : Nat → Prop) (q : List UInt8) (L : List Ent) : SlotW (eWr g Fw q :: L) g Fw q L := ⟨.refl _⟩
instance SlotW.miss (x : Ent) (g : Nat) (Fw : Nat → Prop) (q : List UInt8) (L F : List Ent) [h : SlotW L g Fw q F] : SlotW (x :: L) g Fw q (x :: F) := ⟨(h.perm.cons x).trans (.swap _ _ _)⟩
/-- A slice's blocks are some part's. -/
class HasFt (L : List Ent) (A : Option Addr) (n : Nat) : Prop where
  ft : ∀ k, Ft A n k → ∃ x ∈ L, x.own k ∨ x.rd k
instance (priority := high) HasFt.sl (A : Option Addr) (n c sz : Nat) (xs : List Value) (L : List Ent) : HasFt (eSl A n c sz xs :: L) A n := ⟨fun k hk => ⟨_, List.mem_cons_self, .inr hk⟩⟩
instance (priority := high) HasFt.own (e : TypeId) (A : Option Addr) (n c sz : Nat) (xs : List Value) (L : List Ent) : HasFt (eOwn e sz A n c xs :: L) A n := ⟨fun k hk => ⟨_, List.mem_cons_self, .inl hk.2⟩⟩
instance (priority := high) HasFt.got (A : Option Addr) (n c sz : Nat) (xs : List Value) (L : List Ent) : HasFt (eGot A n c sz xs :: L) A n := ⟨fun k hk => ⟨_, List.mem_cons_self, .inl hk⟩⟩
instance (priority := high) HasFt.blk (g n off : Nat) (t : TypeId) (xs : List Value) (L : List Ent) : HasFt (eBlk g t xs :: L) (some ⟨g, off, none⟩) n := ⟨fun k hk => ⟨_, List.mem_cons_self, .inl (by obtain ⟨_, a, e, rfl⟩ := hk; cases e; rfl)⟩⟩
instance HasFt.miss (x : Ent) (A : Option Addr) (n : Nat) (L : List Ent) [h : HasFt L A n] : HasFt (x :: L) A n := ⟨fun k hk => by
  obtain ⟨y, hy, h2⟩ := h.ft k hk
  exact ⟨y, List.mem_cons_of_mem _ hy, h2⟩⟩
section
variable {S : Nat → Prop} {w0 w w' : World} {L F : List Ent} {g : Nat} {Fw : Nat → Prop} {q : List UInt8}
theorem St.wr (h : St S w0 w L) (g : Nat) {Fw : Nat → Prop} {q : List UInt8} [k : SlotW L g Fw q F] : WrIs w Fw g q := (h.perm k.perm).holds _ List.mem_cons_self
theorem St.wrFar (h : St S w0 w L) [k : SlotW L g Fw q F] {A : Option Addr} {n : Nat} [hf : HasFt F A n] : ∀ i, Ft A n i → ¬ Fw i := fun i hi hw => by
  obtain ⟨x, hx, h2⟩ := hf.ft i hi
  exact ((List.pairwise_cons.1 (h.perm k.perm).apart).1 x hx i).1 hw h2
theorem St.wrSet (h : St S w0 w L) [k : SlotW L g Fw q F] {F' : Nat → Prop} {q' : List UInt8} (hx : WrIs w' F' g q') (hs : Step Fw w w') (hn : ∀ k, F' k → Fw k ∨ w.heap.size ≤ k) : St S w0 w' (eWr g F' q' :: F) :=
  h.set (e := eWr g Fw q) (k := ⟨k.perm⟩) (eWr g F' q') hs hx hn (fun _ hk => hk)
theorem St.newWr (h : St S w0 w L) (g : Nat) [k : SlotB L g 111 [.slice none 0 0] F] : St S w0 w (eWr g (fun i => i = g) [] :: F) :=
  (h.perm k.perm).resay (eWr g (fun i => i = g) []) ⟨rfl, fun i hi => by subst hi; exact (h.blk i (k := k)).lt, none, 0, 0, h.blk g (k := k), Own.nil _ _ _, fun i hi => (at_nil hi).elim⟩ (fun _ => Iff.rfl) (fun _ hk => hk)

theorem ww_raw {A : Option Addr} {n c : Nat} {l : List UInt8} (h : St S w0 w L) [k : SlotW L g Fw q F] [ha : HasSl L A n c 1 (u8s l)] (hq : q.length + l.length ≤ 1000000000) :
    Calls Try.prog 54 #[.pointer (some ⟨g, 0, none⟩), .slice A n c] w fun e w' => (∃ v, e = .returned v) ∧ ∃ F', St S w0 w' (eWr g F' (q ++ l) :: F) :=
  (wr_raw (h.wr g (k := k)) (h.sl A n c) hq).mono fun e w' ⟨hv, F', h1, h2, h3⟩ => ⟨hv, F', h.wrSet (k := k) h1 h2 h3⟩
theorem ww_n {C : Option Addr} {m d : Nat} {l : List Nat} (h : St S w0 w L) [k : SlotW L g Fw q F] (hl : Sl w C m d 1 (u64s l)) [hf : HasFt F C m] (h64 : ∀ x ∈ l, x < 2 ^ 64) (hq : q.length + l.length * 10 ≤ 1000000000) :
    Calls Try.prog 53 #[.pointer (some ⟨g, 0, none⟩), .slice C m d] w fun e w' => (∃ v, e = .returned v) ∧ ∃ F', St S w0 w' (eWr g F' (q ++ l.flatMap nM) :: F) :=
  (wr_n (h.wr g (k := k)) hl (h.wrFar (k := k)) h64 hq).mono fun e w' ⟨hv, F', h1, h2, h3⟩ => ⟨hv, F', h.wrSet (k := k) h1 h2 h3⟩
theorem ww_text {C B : Option Addr} {n e d : Nat} {t : List UInt8} (h : St S w0 w L) [k : SlotW L g Fw q F] (hl : Sl w C 1 d 1 [.slice B n e]) [hf : HasFt F C 1] [ha : HasSl L B n e 1 (u8s t)] [hf2 : HasFt F B n] (hq : q.length + t.length + 10 ≤ 1000000000) :
    Calls Try.prog 55 #[.pointer (some ⟨g, 0, none⟩), .slice C 1 d] w fun e w' => (∃ v, e = .returned v) ∧ ∃ F', St S w0 w' (eWr g F' (q ++ nM t.length ++ t) :: F) :=
  (wr_text (h.wr g (k := k)) hl (h.wrFar (k := k)) (h.sl B n e) (h.wrFar (k := k)) hq).mono fun e w' ⟨hv, F', h1, h2, h3⟩ => ⟨hv, F', h.wrSet (k := k) h1 h2 h3⟩
theorem ww_ids {B : Option Addr} {n d : Nat} {x : List Id} (h : St S w0 w L) [k : SlotW L g Fw q F] [ha : HasSl L B n d 32 (x.flatMap idc)] [hf : HasFt F B n] (hq : q.length ≤ 100000000) (hn : n ≤ 100000) :
    Calls Try.prog 133 #[.pointer (some ⟨g, 0, none⟩), .slice B n d] w fun e w' => (∃ v, e = .returned v) ∧ ∃ F', St S w0 w' (eWr g F' (q ++ nM x.length ++ idsB x) :: F) :=
  (wr_ids (h.wr g (k := k)) (h.sl B n d) (h.wrFar (k := k)) hq hn).mono fun e w' ⟨hv, F', h1, h2, h3⟩ => ⟨hv, F', h.wrSet (k := k) h1 h2 h3⟩
theorem ww_bytes (h : St S w0 w L) [k : SlotW L g Fw q F] (hq : q.length ≤ 1000000000) :
    Calls Try.prog 56 #[.pointer (some ⟨g, 0, none⟩)] w fun e w' => ∃ A c, e = .returned (.slice A q.length c) ∧ St S w0 w' (eOwn 5 1 A q.length c (u8s q) :: L) :=
  (wr_bytes (h.wr g (k := k)) hq).mono fun e w' ⟨A, n, c, h1, h2, h3, h4⟩ => by
    have hn := h2.sl.n_eq
    subst hn
    exact ⟨A, c, h1, h.add h3 (eOwn 5 1 A q.length c (u8s q)) h2.tl (fun k hk => h4 k hk) (fun _ hk => hk)⟩
end
end Go.Proofs.Ytnokgejmlpmgfaa
