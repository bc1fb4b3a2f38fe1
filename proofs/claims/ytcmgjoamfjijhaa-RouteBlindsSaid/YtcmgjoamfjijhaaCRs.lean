/- The reference's suite as a part. -/
import Derived.Test.YtcmgjoamfjijhaaCTp
import Derived.Test.YtcmgjoamfjijhaaCSuIdeal
import Derived.Test.YtcmgjoamfjijhaaCB2
namespace Go.Proofs.Ytcmgjoamfjijhaa
open Go.RowKit Go.Maps
set_option linter.unusedVariables false
set_option linter.unusedSimpArgs false

/-- Slices that are read, as many as one likes. -/
structure SlAt where
  A : Option Addr
  n : Nat
  c : Nat
  sz : Nat
  xs : List Value
def eSls (ss : List SlAt) : Ent where
  own _ := False
  rd k := ∃ s ∈ ss, Ft s.A s.n k
  holds w := ∀ s ∈ ss, 0 < s.sz ∧ Sl w s.A s.n s.c s.sz s.xs
  isC := true
  lt h k hk := by
    rcases hk with hk | ⟨s, hs, hk⟩
    · exact hk.elim
    · exact (h s hs).2.ft_lt (h s hs).1 hk
  keep h hs hd s hm := ⟨(h s hm).1, (h s hm).2.step hs fun k hk => hd k (.inr ⟨s, hm, hk⟩)⟩
  cel e w h k hk o ho := by
    rcases hk with hk | ⟨s, hs, hk⟩
    · exact hk.elim
    · exact (eSl s.A s.n s.c s.sz s.xs).cel rfl (w := w) (h s hs) k (.inr hk) o ho
section
variable {S : Nat → Prop} {w0 w : World} {L F : List Ent} {ss : List SlAt} {A : Option Addr} {n c sz : Nat} {xs : List Value}
theorem St.poolAdd (h : St S w0 w (eSls ss :: eSl A n c sz xs :: F)) : St S w0 w (eSls (ss ++ [⟨A, n, c, sz, xs⟩]) :: F) := by
  have h1 := List.pairwise_cons.1 h.apart
  have h2 := List.pairwise_cons.1 h1.2
  have e1 := h.holds (eSls ss) (by simp)
  have e2 := h.holds (eSl A n c sz xs) (by simp)
  refine ⟨h.step, fun y hy => ?_, fun y hy k hk => ?_, List.pairwise_cons.2 ⟨fun y hy k => ⟨fun hk => hk.elim, ?_⟩, h2.2⟩⟩
  · rcases List.mem_cons.1 hy with rfl | hy
    · intro s hs
      rcases List.mem_append.1 hs with hs | hs
      · exact e1 s hs
      · rw [List.mem_singleton] at hs
        subst hs
        exact e2
    · exact h.holds y (by simp [hy])
  · rcases List.mem_cons.1 hy with rfl | hy
    · exact hk.elim
    · exact h.foot y (by simp [hy]) k hk
  · rintro ⟨s, hs, hk⟩
    rcases List.mem_append.1 hs with hs | hs
    · exact (h1.1 y (by simp [hy]) k).2 ⟨s, hs, hk⟩
    · rw [List.mem_singleton] at hs
      subst hs
      exact (h2.1 y hy k).2 hk
theorem St.pool0 (h : St S w0 w L) : St S w0 w (eSls [] :: L) := h.reading0 (eSls []) (fun s hs => by cases hs) (fun _ h => h) (fun k ⟨s, hs, _⟩ => by cases hs)
theorem St.poolGet (h : St S w0 w L) (ss : List SlAt) [k : Slot L (eSls ss) F] {s : SlAt} (hs : s ∈ ss) : St S w0 w (eSl s.A s.n s.c s.sz s.xs :: L) :=
  h.addSub (e := eSls ss) (eSl s.A s.n s.c s.sz s.xs) (h.get (e := eSls ss) s hs) (fun _ h => h) (fun i hi => ⟨s, hs, hi⟩) (fun _ h => h)
end
/-- What was asked, and what was answered; where that lies. -/
structure RRow where
  kind : { n : Nat // n < 100 }
  k : Id
  lab : List UInt8
  inp : List UInt8
  out : List UInt8
  lA : Option Addr
  lc : Nat
  iA : Option Addr
  ic : Nat
  oA : Option Addr
  oc : Nat
def rrc (x : RRow) : List Value := c_tabulariumref07_row (.int .i64 (x.kind.1 : Int)) (u8s x.k.1) (.slice x.lA x.lab.length x.lc) (.slice x.iA x.inp.length x.ic) (.slice x.oA x.out.length x.oc)
theorem rrc_length (x : RRow) : (rrc x).length = 36 := by
  have := Row.u32 x.k
  unfold rrc
  exact (c_tabulariumref07_row.row _ _ _ _ _).len
def rrp (x : RRow) : List SlAt := [⟨x.lA, x.lab.length, x.lc, 1, u8s x.lab⟩, ⟨x.iA, x.inp.length, x.ic, 1, u8s x.inp⟩, ⟨x.oA, x.out.length, x.oc, 1, u8s x.out⟩]
structure RSu where
  mode : Nat
  tape : List UInt8
  rows : List RRow
structure RsAt where
  tA : Option Addr
  tc : Nat
  rA : Option Addr
  rc : Nat
  a1 : Option Addr
  n1 : Nat
  c1 : Nat
  a2 : Option Addr
  n2 : Nat
  c2 : Nat
  cl : Bool
abbrev rsc (k : RsAt) (s : RSu) : List Value := c_tabulariumref07_Suite (.int .i64 (s.mode : Int)) (.slice k.tA s.tape.length k.tc) (.slice k.rA s.rows.length k.rc) (.slice k.a1 k.n1 k.c1) (.slice k.a2 k.n2 k.c2) (.bool k.cl)
abbrev RSP (g : Nat) (k : RsAt) (s : RSu) (L : List Ent) : List Ent :=
  eBlk g 40 (rsc k s) :: eSl k.tA s.tape.length k.tc 1 (u8s s.tape) :: eOwn 92 36 k.rA s.rows.length k.rc (s.rows.flatMap rrc) :: eSls (s.rows.flatMap rrp) :: L
def eRs (g : Nat) (k : RsAt) (s : RSu) : Ent :=
  eStar (eStar (eStar (eBlk g 40 (rsc k s)) (eSl k.tA s.tape.length k.tc 1 (u8s s.tape))) (eOwn 92 36 k.rA s.rows.length k.rc (s.rows.flatMap rrc))) (eSls (s.rows.flatMap rrp))
class SlotV (L : List Ent) (g : Nat) (k : outParam RsAt) (s : outParam RSu) (F : outParam (List Ent)) : Prop where
  perm : L.Perm (eRs g k s :: F)
instance (priority := high) SlotV.hit (g : Nat) (k : RsAt) (s : RSu) (L : List Ent) : SlotV (eRs g k s :: L) g k s L := ⟨.refl _⟩
instance SlotV.miss (x : Ent) (g : Nat) (k : RsAt) (s : RSu) (L F : List Ent) [h : SlotV L g k s F] : SlotV (x :: L) g k s (x :: F) := ⟨(h.perm.cons x).trans (.swap _ _ _)⟩
section
variable {S : Nat → Prop} {w0 w : World} {L F : List Ent}
theorem St.rsOpen (h : St S w0 w L) (g : Nat) {k : RsAt} {s : RSu} [sl : SlotV L g k s F] : St S w0 w (RSP g k s F) := (h.perm sl.perm).unstar.unstar.unstar
theorem St.rsShut {g : Nat} {k : RsAt} {s : RSu} (h : St S w0 w (RSP g k s F)) : St S w0 w (eRs g k s :: F) := h.star.star.star
/-- One of the answers, to be read beside. -/
theorem St.rsOut {g : Nat} {k : RsAt} {s : RSu} (h : St S w0 w (RSP g k s F)) {x : RRow} (hx : x ∈ s.rows) : St S w0 w (eSl x.oA x.out.length x.oc 1 (u8s x.out) :: eRs g k s :: F) := by
  have h2 := h.poolGet (s.rows.flatMap rrp) (s := ⟨x.oA, x.out.length, x.oc, 1, u8s x.out⟩) (List.mem_flatMap.2 ⟨x, hx, by simp [rrp]⟩)
  have h3 : St S w0 w (RSP g k s (eSl x.oA x.out.length x.oc 1 (u8s x.out) :: F)) := h2.to
  exact h3.rsShut.to
end
/- Draws of the reference. -/
set_option maxRecDepth 100000 in
theorem rs_take {S : Nat → Prop} {w0 w : World} {L F : List Ent} {g : Nat} {k : RsAt} {s : RSu} (h : St S w0 w L) [sl : SlotV L g k s F] (m : Nat) (hm : m ≤ 1000000000) :
    Calls Try.prog 100 #[.pointer (some ⟨g, 0, none⟩), .int .i64 (m : Int)] w fun e w' => ∃ A1 c1, e = .returned (.tuple #[.slice A1 (takeM m s.tape).1.length c1, .int .i64 (takeE m s.tape : Int)]) ∧ ∃ k', St S w0 w' (eSl A1 (takeM m s.tape).1.length c1 1 (u8s (takeM m s.tape).1) :: eRs g k' { s with tape := (takeM m s.tape).2 } :: F) := by
  replace h := h.rsOpen g
  have hle2 := (h.sl k.tA s.tape.length k.tc).le
  have hcap : k.tc ≤ 9223372036854775807 := by have := (h.sl k.tA s.tape.length k.tc).cap; simpa [maxLen] using this
  obtain ⟨mode, tape, rows⟩ := s
  obtain ⟨tA, tc, rA, rc, a1, n1, c1, a2, n2, c2, cl⟩ := k
  simp only at h hle2 hcap ⊢
  by_cases hle : m ≤ tape.length
  · rw [takeM_yes hle, takeE_yes hle]
    have hlen : (tape.take m).length = m := by rw [List.length_take]; omega
    simp only [hlen]
    have f1 : ¬ (tape.length : Int) < (m : Int) := by omega
    have hcut : Sl w tA m tc 1 (u8s (tape.take m)) := by
      rw [← u8s_take]
      simpa using (h.sl tA tape.length tc).take hle (Nat.le_refl tc) (show m ≤ tc by omega)
    have f2 : m ≤ tc := by omega
    have hdl : (tape.drop m).length = tape.length - m := by rw [List.length_drop]
    go_enter Try.func100, Try.ntmps100
    go_wp2_with (first
      | (refine wl_runs rfl (ex_append_nil h _ _ _ rfl rfl tA m tc rfl hcut (u8s_one _) (by simp [maxLen]; omega) (by omega)) ?_; clear h; rintro _ w ⟨A2, c2', rfl, h⟩)
      | (refine wl_runs rfl (ex_store1s h _ _ _ rfl g 1 rfl _ _ _ rfl) ?_; clear h; rintro _ w ⟨rfl, h⟩; try dsimp only [Act.put])
      | (refine wl_reads rfl (ex_loadv h _ _ rfl _ _ rfl) ?_))
    all_goals
      rename_i q
      go_ret2
      refine ⟨A2, c2', rfl, ⟨(if tc = m then tA else tA.map (·.add m)), tc - m, rA, rc, a1, n1, c1, a2, n2, c2, cl⟩, ?_⟩
      have q2 : St S w0 w (eSl tA tape.length tc 1 (u8s tape) :: eOwn 5 1 A2 m c2' (u8s (tape.take m)) :: eBlk g 40 (c_tabulariumref07_Suite (.int .i64 (mode : Int)) (.slice (if tc = m then tA else tA.map (·.add m)) (tape.length - m) (tc - m)) (.slice rA rows.length rc) (.slice a1 n1 c1) (.slice a2 n2 c2) (.bool cl)) :: eOwn 92 36 rA rows.length rc (rows.flatMap rrc) :: eSls (rows.flatMap rrp) :: F) := q.to
      have q3 := q2.dropSl (k := Slot.hit _ _) (i := m) hle
      rw [Nat.mul_one, u8s_drop] at q3
      have q4 := q3.release A2 (by omega)
      have q5 : St S w0 w (eBlk g 40 (c_tabulariumref07_Suite (.int .i64 (mode : Int)) (.slice (if tc = m then tA else tA.map (·.add m)) (tape.length - m) (tc - m)) (.slice rA rows.length rc) (.slice a1 n1 c1) (.slice a2 n2 c2) (.bool cl)) :: eSl (if tc = m then tA else tA.map (·.add m)) (tape.length - m) (tc - m) 1 (u8s (tape.drop m)) :: eOwn 92 36 rA rows.length rc (rows.flatMap rrc) :: eSls (rows.flatMap rrp) :: eSl A2 m c2' 1 (u8s (tape.take m)) :: F) := q4.to
      rw [← hdl] at q5
      exact (St.rsShut (g := g) (k := ⟨(if tc = m then tA else tA.map (·.add m)), tc - m, rA, rc, a1, n1, c1, a2, n2, c2, cl⟩) (s := ⟨mode, tape.drop m, rows⟩) q5).to
  · rw [takeM_no hle, takeE_no hle]
    have f1 : (tape.length : Int) < (m : Int) := by omega
    go_enter Try.func100, Try.ntmps100
    go_wp2_with (first | (refine wl_reads rfl (ex_loadv h _ _ rfl _ _ rfl) ?_))
    go_ret2
    have h3 : St S w0 w (eSl none 0 0 1 [] :: RSP g ⟨tA, tc, rA, rc, a1, n1, c1, a2, n2, c2, cl⟩ ⟨mode, tape, rows⟩ F) := (h.nilRow 5 1).release none (by omega)
    have h4 : St S w0 w (RSP g ⟨tA, tc, rA, rc, a1, n1, c1, a2, n2, c2, cl⟩ ⟨mode, tape, rows⟩ (eSl none 0 0 1 [] :: F)) := h3.to
    have h5 : St S w0 w (eSl none 0 0 1 [] :: eRs g ⟨tA, tc, rA, rc, a1, n1, c1, a2, n2, c2, cl⟩ ⟨mode, tape, rows⟩ :: F) := h4.rsShut.to
    exact ⟨none, 0, rfl, _, h5⟩
end Go.Proofs.Ytcmgjoamfjijhaa
