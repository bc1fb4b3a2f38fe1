/- What waits on a line, told while it is taken. -/
import Derived.Test.YthnjfpjojmcccaaCLink
import Derived.Test.YthnjfpjojmcccaaCB2
import Derived.WalkMore
import Derived.Laws.Cover3
namespace Go.Proofs.Ythnjfpjojmcccaa
open Go.RowKit Go.Shelf
set_option linter.unusedVariables false
set_option linter.unusedSimpArgs false

abbrev DL (gl g : Nat) (k : LkAt) (s : Lk) : List Ent := [eLk g k s, eBlk gl 72 [.pointer (some ⟨g, 0, none⟩)]]
/-- A row that lies in what an iterator holds. -/
def HeldRow (O R : Nat → Prop) (W : World) (x : RowAt) : Prop := Sl W x.A x.n x.c 1 (u8s x.l) ∧ ∀ i, Ft x.A x.n i → O i ∨ R i
theorem HeldRow.still {O R T : Nat → Prop} {W W2 : World} {x : RowAt} {X : Ent} {L : List Ent} (hx : HeldRow O R W x) (h : St T W W2 (X :: eOp O R W :: L)) : Sl W2 x.A x.n x.c 1 (u8s x.l) :=
  hx.1.step (S := fun i => ¬ O i ∧ ¬ R i) ⟨h.step.os, h.step.tape, h.step.output, h.step.size, fun i hi hn => by
    by_cases h1 : O i ∨ R i
    · exact h.opSame i h1
    · exact absurd ⟨fun h => h1 (.inl h), fun h => h1 (.inr h)⟩ hn⟩ (fun k hk hn => (hx.2 k hk).elim hn.1 hn.2)
theorem lk_rd {g : Nat} {k : LkAt} {s : Lk} {i : Nat} : (eLk g k s).rd i ↔ Ft k.fA s.fates.length i ∨ ∃ m ∈ s.wait, Ft m.A m.body.length i := by
  simp [eLk, eStar, eBlk, eSl, eOwn, eSls, mgp]
  constructor
  · rintro (h | ⟨_, ⟨m, hm, rfl⟩, h⟩)
    · exact .inl h
    · exact .inr ⟨m, hm, h⟩
  · rintro (h | ⟨m, hm, h⟩)
    · exact .inl h
    · exact .inr ⟨_, ⟨m, hm, rfl⟩, h⟩
theorem reads_DL {gl g : Nat} {k : LkAt} {s : Lk} {i : Nat} : reads (DL gl g k s) i ↔ (eLk g k s).rd i := by
  simp [reads, eBlk]
theorem St.readsLt {S : Nat → Prop} {w0 w : World} {L : List Ent} (h : St S w0 w L) {i : Nat} (hi : reads L i) : i < w.heap.size := by
  obtain ⟨x, hx, hi⟩ := hi
  exact x.lt (h.holds x hx) i (.inr hi)
theorem drain_make {S : Nat → Prop} {w0 w : World} {L : List Ent} {g : Nat} (h : St S w0 w L) :
    Calls Try.prog 32 #[.pointer (some ⟨g, 0, none⟩)] w fun e w' => ∃ gl, e = .returned (.func (.func 48) #[] #[.pointer (some ⟨gl, 0, none⟩)]) ∧ St S w0 w' (eBlk gl 72 [.pointer (some ⟨g, 0, none⟩)] :: L) := by
  go_enter Try.func32, Try.ntmps32
  go_wp2_with (first
    | (refine wl_runs rfl (ex_box1p h 72 _ rfl _ rfl) ?_; clear h; rintro _ w ⟨gl, rfl, h⟩))
  go_ret
  exact ⟨gl, rfl, h⟩
set_option maxRecDepth 100000 in
set_option maxHeartbeats 1000000 in
theorem drain_iters {gl g : Nat} {k0 : LkAt} {s0 : Lk} (hs0 : ∀ m ∈ s0.wait, m.body.length ≤ 1000) (hl0 : s0.wait.length ≤ 1000) :
    Iters Try.prog 48 #[.pointer (some ⟨gl, 0, none⟩)] (fun p : RowAt => #[.slice p.A p.n p.c]) (fun pre x O R W => (pre ++ [x]).map (·.l) <+: s0.wait.map (·.body) ∧ HeldRow O R W x)
      (fun pre stopped Lf => stopped = false → pre.map (·.l) = s0.wait.map (·.body) ∧ ∃ k, Lf = DL gl g k ⟨s0.fates, s0.sent, []⟩) (DL gl g k0 s0) := by
  intro n l J Jx W hW hJ hJx hY h0
  refine callsIn_wide.2 ?_
  go_enter Try.func48, Try.ntmps48
  go_wp2
  go_loopw [] (fun wr => ∃ (pre : List RowAt) (k : LkAt) (p : List Mg), Hid (pre.map (·.l) ++ p.map (·.body) = s0.wait.map (·.body)) ∧ Hid (∀ m ∈ p, m.body.length ≤ 1000) ∧ p.length ≤ 1000 ∧ St (owns (DL gl g k ⟨s0.fates, s0.sent, p⟩)) wr wr (DL gl g k ⟨s0.fates, s0.sent, p⟩) ∧ J pre (owns (DL gl g k ⟨s0.fates, s0.sent, p⟩)) (reads (DL gl g k ⟨s0.fates, s0.sent, p⟩)) wr) (fun wr => match wr.cell? ⟨g, 2, none⟩ with | some (.slice _ m _) => m | _ => 0)
  case atStart =>
    obtain ⟨fs, se, wt⟩ := s0
    exact ⟨[], k0, wt, Lib.hid rfl, Lib.hid hs0, hl0, hW, h0⟩
  case round =>
    clear h0 hW
    obtain ⟨pre, k, p, Hp, Hb, hpl, h, hJp⟩ := hrel
    obtain ⟨fs, se, wt⟩ := s0
    cases p with
    | nil =>
      go_wp2_with (first
        | (go_at_call 28; refine (lk_receive0 (g := g) h rfl).mono ?_; rintro e w ⟨rfl, rfl⟩)
        | (refine wl_reads rfl (ex_loadv h _ _ rfl _ _ rfl) ?_))
      go_end0
      exact IterEnd.ends (pre := pre) (Lf := DL gl g k ⟨fs, se, []⟩) (fun _ => ⟨by have := Hp.out; simpa using this, k, rfl⟩) h hJp
    | cons x p =>
      have hx1 : x.body.length ≤ 1000 := Hb.out x List.mem_cons_self
      have hp1 : p.length ≤ 1000 := by simp at hpl; omega
      have c0 := Lib.hid (show wr.cell? ⟨g, 2, none⟩ = some (.slice k.wA (p.length + 1) k.wc) from ((h.lkOpen g).blk g).cell 2)
      have Hb2 := Lib.hid (show ∀ m ∈ p, m.body.length ≤ 1000 from fun m hm => Hb.out m (List.mem_cons_of_mem _ hm))
      clear hpl
      go_upto_region 1 with (first
        | (go_at_call 28; refine (lk_receive1r (g := g) (x := x) (p := p) h (by omega) (by omega)).mono ?_; clear h; rintro e w ⟨A1, c1, k2, rfl, hk2, h⟩)
        | (refine wl_reads rfl (ex_loadv h _ _ rfl _ _ rfl) ?_))
      have hrd : ∀ i, reads (eOwn 5 1 A1 x.body.length c1 (u8s x.body) :: eLk g k2 ⟨fs, se, p⟩ :: [eBlk gl 72 [.pointer (some ⟨g, 0, none⟩)]]) i → reads (DL gl g k ⟨fs, se, x :: p⟩) i := fun i hi => by
        rw [reads_DL, lk_rd]
        simp only [reads, List.mem_cons, List.not_mem_nil, or_false] at hi
        obtain ⟨y, rfl | rfl | rfl, hi⟩ := hi
        · exact hi.elim
        · rw [lk_rd, hk2] at hi
          rcases hi with hi | ⟨m, hm, hi⟩
          · exact .inl hi
          · exact .inr ⟨m, List.mem_cons_of_mem _ hm, hi⟩
        · exact hi.elim
      have hJ2 := hJ pre _ _ _ (reads (eOwn 5 1 A1 x.body.length c1 (u8s x.body) :: eLk g k2 ⟨fs, se, p⟩ :: [eBlk gl 72 [.pointer (some ⟨g, 0, none⟩)]])) wr w hJp h.step (fun i hi => ⟨(h.owns_lt hi).2, (h.owns_lt hi).1⟩) (fun i hi => ⟨.inr (.inl (hrd i hi)), h.readsLt hi⟩)
      have hok : HeldRow (owns (eOwn 5 1 A1 x.body.length c1 (u8s x.body) :: eLk g k2 ⟨fs, se, p⟩ :: [eBlk gl 72 [.pointer (some ⟨g, 0, none⟩)]])) (reads (eOwn 5 1 A1 x.body.length c1 (u8s x.body) :: eLk g k2 ⟨fs, se, p⟩ :: [eBlk gl 72 [.pointer (some ⟨g, 0, none⟩)]])) w ⟨A1, x.body.length, c1, x.body⟩ :=
        ⟨h.sl A1 x.body.length c1, fun i hi => .inl ⟨_, List.mem_cons_self, hi.2⟩⟩
      have Hp2 := Lib.hid (show (pre ++ [(⟨A1, x.body.length, c1, x.body⟩ : RowAt)]).map (fun x => x.l) ++ p.map (fun x => x.body) = wt.map (fun x => x.body) from by rw [← Hp.out]; simp)
      obtain ⟨fn, tmps, assign, body, hy, hR⟩ := hY _ ⟨A1, x.body.length, c1, x.body⟩ _ _ _ hJ2 ⟨⟨_, Hp2.out⟩, hok⟩
      clear hok hJ2 hJp
      simp only at hy
      refine (wpIn_wide (n := n)).1 ?_
      gi_wp2_with (fail)
      refine ⟨fun h => (by cases h), hR.mono ?_⟩
      rintro e W3 ⟨hs3, ⟨rfl, hJ3⟩ | ⟨rfl, hJx3⟩⟩
      · replace h := h.renew.over hs3
        have h2 : St (owns (DL gl g k2 ⟨fs, se, p⟩)) W3 W3 (DL gl g k2 ⟨fs, se, p⟩) := (St.to (L' := DL gl g k2 ⟨fs, se, p⟩) h).renew
        have h3 : St _ W3 W3 (DL gl g k2 ⟨fs, se, p⟩) := St.to (L' := DL gl g k2 ⟨fs, se, p⟩) h
        gi_wp2
        go_wp2
        refine ⟨⟨pre ++ [⟨A1, x.body.length, c1, x.body⟩], k2, p, Hp2, Hb2, hp1, h2, hJ _ _ _ _ _ W3 W3 hJ3 (Step.refl _ _) (fun i hi => ⟨(h3.owns_lt hi).2, (h3.owns_lt hi).1⟩) (fun i hi => ⟨.inr (.inl (by
          obtain ⟨y, hy, hi⟩ := hi
          exact ⟨y, List.mem_cons_of_mem _ hy, hi⟩)), h2.readsLt hi⟩)⟩, ?_⟩
        have c1 : W3.cell? ⟨g, 2, none⟩ = some (.slice k2.wA p.length k2.wc) := ((h2.lkOpen g).blk g).cell 2
        rw [c1, c0.out]
        simp only
        omega
      · replace h := h.renew.over hs3
        gi_wp2
        go_wp2
        exact bodyPost_ret (results_none rfl _ _ _) rfl (IterEnd.stops (pre := pre ++ [⟨A1, x.body.length, c1, x.body⟩]) (fun e => by cases e) h hJx3)
end Go.Proofs.Ythnjfpjojmcccaa
