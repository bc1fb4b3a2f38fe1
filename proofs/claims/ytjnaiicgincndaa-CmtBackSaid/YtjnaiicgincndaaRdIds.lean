/- The reader's ids. -/
import Derived.Test.YtjnaiicgincndaaRdCode
import Derived.Test.YtjnaiicgincndaaIters
import Derived.WalkMore
import Derived.Laws.Cover3
namespace Go.Proofs.Ytjnaiicgincndaa
open Go.RowKit Go.Shelf
set_option linter.unusedVariables false
set_option linter.unusedSimpArgs false

theorem reads_cons {x : Ent} {L : List Ent} {i : Nat} : reads (x :: L) i ↔ x.rd i ∨ reads L i := by simp [reads]
theorem reads_nil {i : Nat} : ¬ reads [] i := by simp [reads]
/-- Parts of an iterator, whose reads are bounded. -/
theorem St.told {T : Nat → Prop} {w w' : World} {L L' : List Ent} (h : St T w w' L') (hT : ∀ i, T i ↔ owns L i) : (∀ i, owns L' i → (owns L i ∨ w.heap.size ≤ i) ∧ i < w'.heap.size) := fun i hi => by
  obtain ⟨h1, h2⟩ := h.owns_lt hi
  rw [hT] at h2
  exact ⟨h2, h1⟩
theorem St.reads_lt {S : Nat → Prop} {w0 w : World} {L : List Ent} (h : St S w0 w L) {i : Nat} (hi : reads L i) : i < w.heap.size := by
  obtain ⟨x, hx, hi⟩ := hi
  exact x.lt (h.holds x hx) i (.inr hi)
abbrev EL (gn gr g : Nat) (R : Nat → Prop) (k : Nat) (s : RS) (L : List Ent) : List Ent := eRd 128 true g R s :: eBlk gn 28 [.int .u64 (k : Int)] :: eBlk gr 86 [.pointer (some ⟨g, 0, none⟩)] :: L
theorem reads_EL {gn gr g : Nat} {R : Nat → Prop} {k : Nat} {s : RS} {i : Nat} : reads (EL gn gr g R k s []) i ↔ R i := by
  simp [reads_cons, reads_nil, eRd, eBlk]

theorem each_make {S : Nat → Prop} {w0 w : World} {L F : List Ent} {g k : Nat} (h : St S w0 w L) :
    Calls Try.prog 91 #[.pointer (some ⟨g, 0, none⟩), .int .u64 (k : Int)] w fun e w' => ∃ gn gr, e = .returned (.func (.func 108) #[] #[.pointer (some ⟨gn, 0, none⟩), .pointer (some ⟨gr, 0, none⟩)]) ∧ St S w0 w' (eBlk gn 28 [.int .u64 (k : Int)] :: eBlk gr 86 [.pointer (some ⟨g, 0, none⟩)] :: L) := by
  go_enter Try.func91, Try.ntmps91
  go_wp2_with (first
    | (refine wl_runs rfl (ex_box1p h 86 _ rfl _ rfl) ?_; clear h; rintro _ w ⟨gr, rfl, h⟩)
    | (refine wl_runs rfl (ex_box1i h 28 _ rfl _ _ rfl) ?_; clear h; rintro _ w ⟨gn, rfl, h⟩)
    | (refine wl_reads rfl (ex_loadv h _ _ rfl _ _ rfl) ?_) | (refine wl_runs rfl (ex_store1i h _ _ _ rfl _ _ rfl _ _ rfl) ?_; clear h; rintro _ w ⟨rfl, h⟩; try dsimp only [Act.put]) | (refine wl_runs rfl (ex_store1s h _ _ _ rfl _ _ rfl _ _ _ rfl) ?_; clear h; rintro _ w ⟨rfl, h⟩; try dsimp only [Act.put]) | (refine wl_runs rfl (ex_store1b h _ _ _ rfl _ _ rfl _ rfl) ?_; clear h; rintro _ w ⟨rfl, h⟩; try dsimp only [Act.put]) | (refine wl_runs rfl (ex_store1t h _ _ _ rfl _ _ rfl _ rfl) ?_; clear h; rintro _ w ⟨rfl, h⟩; try dsimp only [Act.put]) | (refine wl_runs rfl (ex_store1p h _ _ _ rfl _ _ rfl _ rfl) ?_; clear h; rintro _ w ⟨rfl, h⟩; try dsimp only [Act.put]) | (refine wl_runs rfl (ex_store1m h _ _ _ rfl _ _ rfl _ rfl) ?_; clear h; rintro _ w ⟨rfl, h⟩; try dsimp only [Act.put]) | (refine wl_runs rfl (ex_store h _ _ _ rfl _ _ rfl _ rfl) ?_; clear h; rintro _ w ⟨rfl, h⟩; try dsimp only [Act.put]) | (refine wl_runs rfl (ex_alloc h _ rfl) ?_; clear h; rintro _ w ⟨g, rfl, h⟩) | (refine wl_runs rfl (ex_box h _ _ rfl _ rfl) ?_; clear h; rintro _ w ⟨g, rfl, h⟩) | (refine wl_runs rfl (ex_box1i h _ _ rfl _ _ rfl) ?_; clear h; rintro _ w ⟨g, rfl, h⟩) | (refine wl_runs rfl (ex_box1s h _ _ rfl _ _ _ rfl) ?_; clear h; rintro _ w ⟨g, rfl, h⟩) | (refine wl_runs rfl (ex_box1b h _ _ rfl _ rfl) ?_; clear h; rintro _ w ⟨g, rfl, h⟩) | (refine wl_runs rfl (ex_box1t h _ _ rfl _ rfl) ?_; clear h; rintro _ w ⟨g, rfl, h⟩) | (refine wl_runs rfl (ex_box1p h _ _ rfl _ rfl) ?_; clear h; rintro _ w ⟨g, rfl, h⟩) | (refine wl_runs rfl (ex_box1m h _ _ rfl _ rfl) ?_; clear h; rintro _ w ⟨g, rfl, h⟩) | (refine wl_runs rfl (ex_slice1 h _ _ rfl _ rfl) ?_; clear h; rintro _ w ⟨g, rfl, h⟩) | (refine wl_runs rfl (ex_slice1i h _ _ rfl _ _ rfl) ?_; clear h; rintro _ w ⟨g, rfl, h⟩) | (refine wl_runs rfl (ex_slice1s h _ _ rfl _ _ _ rfl) ?_; clear h; rintro _ w ⟨g, rfl, h⟩) | (refine wl_runs rfl (ex_slice1b h _ _ rfl _ rfl) ?_; clear h; rintro _ w ⟨g, rfl, h⟩) | (refine wl_runs rfl (ex_slice1t h _ _ rfl _ rfl) ?_; clear h; rintro _ w ⟨g, rfl, h⟩) | (refine wl_runs rfl (ex_slice1p h _ _ rfl _ rfl) ?_; clear h; rintro _ w ⟨g, rfl, h⟩) | (refine wl_runs rfl (ex_slice1m h _ _ rfl _ rfl) ?_; clear h; rintro _ w ⟨g, rfl, h⟩) | (refine wl_reads rfl (ex_lit0 _ rfl) ?_))
  go_ret
  exact ⟨_, _, rfl, h⟩

set_option maxRecDepth 100000 in
set_option maxHeartbeats 1000000 in
theorem each_iters {gn gr g : Nat} {R : Nat → Prop} {k0 : Nat} {s0 : RS} (hk : k0 < 2 ^ 64) :
    Iters Try.prog 108 #[.pointer (some ⟨gn, 0, none⟩), .pointer (some ⟨gr, 0, none⟩)] (fun x : Id => #[.agg (idc x).toArray]) (fun pre x _ _ _ => pre ++ [x] <+: (idsN k0 s0).1)
      (fun pre stopped Lf => stopped = false → pre = (idsN k0 s0).1 ∧ ∃ k, Lf = EL gn gr g R k (idsN k0 s0).2 []) (EL gn gr g R k0 s0 []) := by
  intro n l J Jx W hW hJ hJx hY h0
  refine callsIn_wide.2 ?_
  go_enter Try.func108, Try.ntmps108
  go_wp2
  go_loopw [] (fun wr => ∃ (pre : List Id) (k : Nat) (s : RS), k ≤ k0 ∧ St (owns (EL gn gr g R k s [])) wr wr (EL gn gr g R k s []) ∧ J pre (owns (EL gn gr g R k s [])) R wr ∧ Hid (idsN k0 s0 = (pre ++ (idsN k s).1, (idsN k s).2))) (fun wr => match wr.cell? ⟨gn, 0, none⟩ with | some (.int _ i) => i.toNat | _ => 0)
  case atStart => exact ⟨[], k0, s0, Nat.le_refl _, hW, (hJ _ _ _ _ _ _ _ h0 (Step.refl _ _) (fun i hi => ⟨.inl hi, (hW.owns_lt hi).1⟩) (fun i hi => ⟨.inr (.inl (reads_EL.2 hi)), hW.reads_lt (reads_EL.2 hi)⟩)), Lib.hid (by simp)⟩
  case round =>
    clear h0 hW
    obtain ⟨pre, k, s, hkk, h, hJp, Hs⟩ := hrel
    have c0 := Lib.hid (show wr.cell? ⟨gn, 0, none⟩ = some (.int .u64 (k : Int)) from (h.blk gn).cell 0)
    by_cases hk0 : 0 < k
    · obtain ⟨k, rfl⟩ : ∃ j, k = j + 1 := ⟨k - 1, by omega⟩
      have hkz : ¬ (((k + 1 : Nat) : Int) ≤ 0) := by omega
      cases hi : (idT s).2 with
      | none =>
        have hraw : rawT 32 s = ([], none) := by
          cases s with
          | none => rfl
          | some l =>
            rw [rawT]
            split
            · rename_i h2
              rw [idT_some h2] at hi
              cases hi
            · rfl
        have hids : idsN (k + 1) s = ([], none) := by rw [idsN, hi]
        have Hs2 := Lib.hid (Hs.out.trans (by rw [hids]; simp) : idsN k0 s0 = (pre, none))
        have Hr := Lib.hid hraw
        clear hi hraw hids Hs
        go_wp2_with (first
          | (go_at_call 54; refine (rd_raw (m := 32) h (by omega)).mono ?_; rw [Hr.out]; clear h; rintro e w ⟨A, c, rfl, h⟩)
          | (refine wl_reads rfl (ex_loadv h _ _ rfl _ _ rfl) ?_) | (refine wl_runs rfl (ex_store1i h _ _ _ rfl _ _ rfl _ _ rfl) ?_; clear h; rintro _ w ⟨rfl, h⟩; try dsimp only [Act.put]) | (refine wl_runs rfl (ex_store1s h _ _ _ rfl _ _ rfl _ _ _ rfl) ?_; clear h; rintro _ w ⟨rfl, h⟩; try dsimp only [Act.put]) | (refine wl_runs rfl (ex_store1b h _ _ _ rfl _ _ rfl _ rfl) ?_; clear h; rintro _ w ⟨rfl, h⟩; try dsimp only [Act.put]) | (refine wl_runs rfl (ex_store1t h _ _ _ rfl _ _ rfl _ rfl) ?_; clear h; rintro _ w ⟨rfl, h⟩; try dsimp only [Act.put]) | (refine wl_runs rfl (ex_store1p h _ _ _ rfl _ _ rfl _ rfl) ?_; clear h; rintro _ w ⟨rfl, h⟩; try dsimp only [Act.put]) | (refine wl_runs rfl (ex_store1m h _ _ _ rfl _ _ rfl _ rfl) ?_; clear h; rintro _ w ⟨rfl, h⟩; try dsimp only [Act.put]) | (refine wl_runs rfl (ex_store h _ _ _ rfl _ _ rfl _ rfl) ?_; clear h; rintro _ w ⟨rfl, h⟩; try dsimp only [Act.put]) | (refine wl_runs rfl (ex_alloc h _ rfl) ?_; clear h; rintro _ w ⟨g, rfl, h⟩) | (refine wl_runs rfl (ex_box h _ _ rfl _ rfl) ?_; clear h; rintro _ w ⟨g, rfl, h⟩) | (refine wl_runs rfl (ex_box1i h _ _ rfl _ _ rfl) ?_; clear h; rintro _ w ⟨g, rfl, h⟩) | (refine wl_runs rfl (ex_box1s h _ _ rfl _ _ _ rfl) ?_; clear h; rintro _ w ⟨g, rfl, h⟩) | (refine wl_runs rfl (ex_box1b h _ _ rfl _ rfl) ?_; clear h; rintro _ w ⟨g, rfl, h⟩) | (refine wl_runs rfl (ex_box1t h _ _ rfl _ rfl) ?_; clear h; rintro _ w ⟨g, rfl, h⟩) | (refine wl_runs rfl (ex_box1p h _ _ rfl _ rfl) ?_; clear h; rintro _ w ⟨g, rfl, h⟩) | (refine wl_runs rfl (ex_box1m h _ _ rfl _ rfl) ?_; clear h; rintro _ w ⟨g, rfl, h⟩) | (refine wl_runs rfl (ex_slice1 h _ _ rfl _ rfl) ?_; clear h; rintro _ w ⟨g, rfl, h⟩) | (refine wl_runs rfl (ex_slice1i h _ _ rfl _ _ rfl) ?_; clear h; rintro _ w ⟨g, rfl, h⟩) | (refine wl_runs rfl (ex_slice1s h _ _ rfl _ _ _ rfl) ?_; clear h; rintro _ w ⟨g, rfl, h⟩) | (refine wl_runs rfl (ex_slice1b h _ _ rfl _ rfl) ?_; clear h; rintro _ w ⟨g, rfl, h⟩) | (refine wl_runs rfl (ex_slice1t h _ _ rfl _ rfl) ?_; clear h; rintro _ w ⟨g, rfl, h⟩) | (refine wl_runs rfl (ex_slice1p h _ _ rfl _ rfl) ?_; clear h; rintro _ w ⟨g, rfl, h⟩) | (refine wl_runs rfl (ex_slice1m h _ _ rfl _ rfl) ?_; clear h; rintro _ w ⟨g, rfl, h⟩) | (refine wl_reads rfl (ex_lit0 _ rfl) ?_))
        have h2 : St _ wr w (EL gn gr g R (k + 1) none []) := h.to
        refine bodyPost_ret (results_none rfl _ _ _) rfl (IterEnd.ends (pre := pre) (Lf := EL gn gr g R (k + 1) none []) (fun _ => ⟨by rw [Hs2.out], k + 1, by rw [Hs2.out]⟩) h2.renew (hJ _ _ _ _ _ _ _ hJp h2.step (h2.told (fun _ => Iff.rfl)) (fun i hi => ⟨.inr (.inl (reads_EL.1 hi)), h2.reads_lt hi⟩)))
      | some r =>
        have hsp := idT_spec hi
        obtain ⟨x, hx⟩ : ∃ x, (idT s).1 = x := ⟨_, rfl⟩
        rw [hx] at hsp
        have hraw : rawT 32 s = (x.1, some r) := by
          have := rawT_app x.1 r
          rw [x.2] at this
          rw [hsp, this]
        have hids : idsN (k + 1) s = (x :: (idsN k (some r)).1, (idsN k (some r)).2) := by rw [idsN, hi, hx]
        have Hs2 := Lib.hid (Hs.out.trans (by rw [hids]; simp) : idsN k0 s0 = ((pre ++ [x]) ++ (idsN k (some r)).1, (idsN k (some r)).2))
        have Hr := Lib.hid hraw
        have Hxl := Lib.hid x.2
        clear hi hraw hids Hs hsp hx
        go_upto_region 3 with (first
          | (go_at_call 54; refine (rd_raw (m := 32) h (by omega)).mono ?_; rw [Hr.out]; simp only [Hxl.out]; clear h; rintro e w ⟨A, c, rfl, h⟩)
          | (refine wl_reads rfl (ex_loadv h _ _ rfl _ _ rfl) ?_) | (refine wl_runs rfl (ex_store1i h _ _ _ rfl _ _ rfl _ _ rfl) ?_; clear h; rintro _ w ⟨rfl, h⟩; try dsimp only [Act.put]) | (refine wl_runs rfl (ex_store1s h _ _ _ rfl _ _ rfl _ _ _ rfl) ?_; clear h; rintro _ w ⟨rfl, h⟩; try dsimp only [Act.put]) | (refine wl_runs rfl (ex_store1b h _ _ _ rfl _ _ rfl _ rfl) ?_; clear h; rintro _ w ⟨rfl, h⟩; try dsimp only [Act.put]) | (refine wl_runs rfl (ex_store1t h _ _ _ rfl _ _ rfl _ rfl) ?_; clear h; rintro _ w ⟨rfl, h⟩; try dsimp only [Act.put]) | (refine wl_runs rfl (ex_store1p h _ _ _ rfl _ _ rfl _ rfl) ?_; clear h; rintro _ w ⟨rfl, h⟩; try dsimp only [Act.put]) | (refine wl_runs rfl (ex_store1m h _ _ _ rfl _ _ rfl _ rfl) ?_; clear h; rintro _ w ⟨rfl, h⟩; try dsimp only [Act.put]) | (refine wl_runs rfl (ex_store h _ _ _ rfl _ _ rfl _ rfl) ?_; clear h; rintro _ w ⟨rfl, h⟩; try dsimp only [Act.put]) | (refine wl_runs rfl (ex_alloc h _ rfl) ?_; clear h; rintro _ w ⟨g, rfl, h⟩) | (refine wl_runs rfl (ex_box h _ _ rfl _ rfl) ?_; clear h; rintro _ w ⟨g, rfl, h⟩) | (refine wl_runs rfl (ex_box1i h _ _ rfl _ _ rfl) ?_; clear h; rintro _ w ⟨g, rfl, h⟩) | (refine wl_runs rfl (ex_box1s h _ _ rfl _ _ _ rfl) ?_; clear h; rintro _ w ⟨g, rfl, h⟩) | (refine wl_runs rfl (ex_box1b h _ _ rfl _ rfl) ?_; clear h; rintro _ w ⟨g, rfl, h⟩) | (refine wl_runs rfl (ex_box1t h _ _ rfl _ rfl) ?_; clear h; rintro _ w ⟨g, rfl, h⟩) | (refine wl_runs rfl (ex_box1p h _ _ rfl _ rfl) ?_; clear h; rintro _ w ⟨g, rfl, h⟩) | (refine wl_runs rfl (ex_box1m h _ _ rfl _ rfl) ?_; clear h; rintro _ w ⟨g, rfl, h⟩) | (refine wl_runs rfl (ex_slice1 h _ _ rfl _ rfl) ?_; clear h; rintro _ w ⟨g, rfl, h⟩) | (refine wl_runs rfl (ex_slice1i h _ _ rfl _ _ rfl) ?_; clear h; rintro _ w ⟨g, rfl, h⟩) | (refine wl_runs rfl (ex_slice1s h _ _ rfl _ _ _ rfl) ?_; clear h; rintro _ w ⟨g, rfl, h⟩) | (refine wl_runs rfl (ex_slice1b h _ _ rfl _ rfl) ?_; clear h; rintro _ w ⟨g, rfl, h⟩) | (refine wl_runs rfl (ex_slice1t h _ _ rfl _ rfl) ?_; clear h; rintro _ w ⟨g, rfl, h⟩) | (refine wl_runs rfl (ex_slice1p h _ _ rfl _ rfl) ?_; clear h; rintro _ w ⟨g, rfl, h⟩) | (refine wl_runs rfl (ex_slice1m h _ _ rfl _ rfl) ?_; clear h; rintro _ w ⟨g, rfl, h⟩) | (refine wl_reads rfl (ex_lit0 _ rfl) ?_))
        obtain ⟨b, off, rfl, hbl, hcs⟩ := (h.sl A 32 c).pos (by omega)
        have hat : ∀ W', (Instr.arrayAt 26 (.slice (some ⟨b, off, none⟩) 32 c)).run Try.prog W' = .ok (.pointer (some ⟨b, off, none⟩)) W' := fun W' => run_arrayAt _ _ _ 32 _ _ _ Try.underlying26 (Nat.le_refl _)
        have hJ2 := hJ pre _ R _ R wr w hJp h.step (h.told (fun _ => Iff.rfl)) (fun i hi => ⟨.inr (.inl hi), h.reads_lt (by simp [reads_cons, eRd]; exact .inl hi)⟩)
        refine (wpIn_wide (n := n)).1 ?_
        obtain ⟨fn, tmps, assign, body, hy, hR⟩ := hY _ x _ _ _ hJ2 ⟨_, by rw [Hs2.out]⟩
        unfold idc at hy
        gi_wp2_with (first
          | (refine wi_reads rfl (ex_load_at _ _ rfl b off rfl (u8s x.1) (by rw [u8s_length, Hxl.out]) hcs) ?_))
        refine ⟨fun h => (by cases h), hR.mono ?_⟩
        rintro e W3 ⟨hs3, ⟨rfl, hJ3⟩ | ⟨rfl, hJx3⟩⟩
        · have hle := hs3.size
          have hRlt : ∀ i, R i → i < W3.heap.size := fun i hi => Nat.lt_of_lt_of_le (h.reads_lt (by simp [reads_cons, eRd]; exact .inl hi)) hle
          replace h := h.over (hs3.mono fun i _ hn => ⟨hn.1, fun hr => hn.2 (by simpa [reads_cons, reads_nil, eRd, eOwn, eBlk] using hr)⟩)
          have h3 := h
          replace h := h.renew
          have e1 : ((k + 1 : Nat) : Int) - 1 = (k : Int) := by omega
          gi_wp2
          go_wp2_with (first | (refine wl_reads rfl (ex_loadv h _ _ rfl _ _ rfl) ?_) | (refine wl_runs rfl (ex_store1i h _ _ _ rfl _ _ rfl _ _ rfl) ?_; clear h; rintro _ w ⟨rfl, h⟩; try dsimp only [Act.put]) | (refine wl_runs rfl (ex_store1s h _ _ _ rfl _ _ rfl _ _ _ rfl) ?_; clear h; rintro _ w ⟨rfl, h⟩; try dsimp only [Act.put]) | (refine wl_runs rfl (ex_store1b h _ _ _ rfl _ _ rfl _ rfl) ?_; clear h; rintro _ w ⟨rfl, h⟩; try dsimp only [Act.put]) | (refine wl_runs rfl (ex_store1t h _ _ _ rfl _ _ rfl _ rfl) ?_; clear h; rintro _ w ⟨rfl, h⟩; try dsimp only [Act.put]) | (refine wl_runs rfl (ex_store1p h _ _ _ rfl _ _ rfl _ rfl) ?_; clear h; rintro _ w ⟨rfl, h⟩; try dsimp only [Act.put]) | (refine wl_runs rfl (ex_store1m h _ _ _ rfl _ _ rfl _ rfl) ?_; clear h; rintro _ w ⟨rfl, h⟩; try dsimp only [Act.put]) | (refine wl_runs rfl (ex_store h _ _ _ rfl _ _ rfl _ rfl) ?_; clear h; rintro _ w ⟨rfl, h⟩; try dsimp only [Act.put]) | (refine wl_runs rfl (ex_alloc h _ rfl) ?_; clear h; rintro _ w ⟨g, rfl, h⟩) | (refine wl_runs rfl (ex_box h _ _ rfl _ rfl) ?_; clear h; rintro _ w ⟨g, rfl, h⟩) | (refine wl_runs rfl (ex_box1i h _ _ rfl _ _ rfl) ?_; clear h; rintro _ w ⟨g, rfl, h⟩) | (refine wl_runs rfl (ex_box1s h _ _ rfl _ _ _ rfl) ?_; clear h; rintro _ w ⟨g, rfl, h⟩) | (refine wl_runs rfl (ex_box1b h _ _ rfl _ rfl) ?_; clear h; rintro _ w ⟨g, rfl, h⟩) | (refine wl_runs rfl (ex_box1t h _ _ rfl _ rfl) ?_; clear h; rintro _ w ⟨g, rfl, h⟩) | (refine wl_runs rfl (ex_box1p h _ _ rfl _ rfl) ?_; clear h; rintro _ w ⟨g, rfl, h⟩) | (refine wl_runs rfl (ex_box1m h _ _ rfl _ rfl) ?_; clear h; rintro _ w ⟨g, rfl, h⟩) | (refine wl_runs rfl (ex_slice1 h _ _ rfl _ rfl) ?_; clear h; rintro _ w ⟨g, rfl, h⟩) | (refine wl_runs rfl (ex_slice1i h _ _ rfl _ _ rfl) ?_; clear h; rintro _ w ⟨g, rfl, h⟩) | (refine wl_runs rfl (ex_slice1s h _ _ rfl _ _ _ rfl) ?_; clear h; rintro _ w ⟨g, rfl, h⟩) | (refine wl_runs rfl (ex_slice1b h _ _ rfl _ rfl) ?_; clear h; rintro _ w ⟨g, rfl, h⟩) | (refine wl_runs rfl (ex_slice1t h _ _ rfl _ rfl) ?_; clear h; rintro _ w ⟨g, rfl, h⟩) | (refine wl_runs rfl (ex_slice1p h _ _ rfl _ rfl) ?_; clear h; rintro _ w ⟨g, rfl, h⟩) | (refine wl_runs rfl (ex_slice1m h _ _ rfl _ rfl) ?_; clear h; rintro _ w ⟨g, rfl, h⟩) | (refine wl_reads rfl (ex_lit0 _ rfl) ?_))
          have h2 : St _ W3 w (EL gn gr g R k (some r) []) := St.to (L := eBlk gn 28 [.int .u64 (k : Int)] :: _) (by simpa using h)
          refine ⟨⟨pre ++ [x], k, some r, by omega, h2.renew, hJ _ _ R _ R W3 w hJ3 (h2.step) (h2.told fun _ => Iff.rfl) (fun i hi => ⟨.inr (.inl hi), Nat.lt_of_lt_of_le (hRlt i hi) h2.step.size⟩), Hs2⟩, ?_⟩
          have c1 : w.cell? ⟨gn, 0, none⟩ = some (.int .u64 (k : Int)) := (h2.blk gn).cell 0
          rw [c1, c0.out]
          simp only [Int.toNat_natCast]
          omega
        · replace h := (h.over (hs3.mono fun i _ hn => ⟨hn.1, fun hr => hn.2 (by simpa [reads_cons, reads_nil, eRd, eOwn, eBlk] using hr)⟩)).renew
          gi_wp2
          go_wp2
          refine bodyPost_ret (results_none rfl _ _ _) rfl (IterEnd.stops (pre := pre ++ [x]) (fun e => by cases e) h.renew (hJx _ _ R _ _ W3 W3 hJx3 (Step.refl _ _) (fun i hi => ⟨.inl hi, (h.owns_lt hi).1⟩) (fun i hi => ⟨.inr (.inl (by simpa [reads_cons, reads_nil, eRd, eOwn, eBlk] using hi)), h.reads_lt hi⟩)))
    · have hkz : k = 0 := by omega
      subst hkz
      go_wp2_with (first | (refine wl_reads rfl (ex_loadv h _ _ rfl _ _ rfl) ?_) | (refine wl_runs rfl (ex_store1i h _ _ _ rfl _ _ rfl _ _ rfl) ?_; clear h; rintro _ w ⟨rfl, h⟩; try dsimp only [Act.put]) | (refine wl_runs rfl (ex_store1s h _ _ _ rfl _ _ rfl _ _ _ rfl) ?_; clear h; rintro _ w ⟨rfl, h⟩; try dsimp only [Act.put]) | (refine wl_runs rfl (ex_store1b h _ _ _ rfl _ _ rfl _ rfl) ?_; clear h; rintro _ w ⟨rfl, h⟩; try dsimp only [Act.put]) | (refine wl_runs rfl (ex_store1t h _ _ _ rfl _ _ rfl _ rfl) ?_; clear h; rintro _ w ⟨rfl, h⟩; try dsimp only [Act.put]) | (refine wl_runs rfl (ex_store1p h _ _ _ rfl _ _ rfl _ rfl) ?_; clear h; rintro _ w ⟨rfl, h⟩; try dsimp only [Act.put]) | (refine wl_runs rfl (ex_store1m h _ _ _ rfl _ _ rfl _ rfl) ?_; clear h; rintro _ w ⟨rfl, h⟩; try dsimp only [Act.put]) | (refine wl_runs rfl (ex_store h _ _ _ rfl _ _ rfl _ rfl) ?_; clear h; rintro _ w ⟨rfl, h⟩; try dsimp only [Act.put]) | (refine wl_runs rfl (ex_alloc h _ rfl) ?_; clear h; rintro _ w ⟨g, rfl, h⟩) | (refine wl_runs rfl (ex_box h _ _ rfl _ rfl) ?_; clear h; rintro _ w ⟨g, rfl, h⟩) | (refine wl_runs rfl (ex_box1i h _ _ rfl _ _ rfl) ?_; clear h; rintro _ w ⟨g, rfl, h⟩) | (refine wl_runs rfl (ex_box1s h _ _ rfl _ _ _ rfl) ?_; clear h; rintro _ w ⟨g, rfl, h⟩) | (refine wl_runs rfl (ex_box1b h _ _ rfl _ rfl) ?_; clear h; rintro _ w ⟨g, rfl, h⟩) | (refine wl_runs rfl (ex_box1t h _ _ rfl _ rfl) ?_; clear h; rintro _ w ⟨g, rfl, h⟩) | (refine wl_runs rfl (ex_box1p h _ _ rfl _ rfl) ?_; clear h; rintro _ w ⟨g, rfl, h⟩) | (refine wl_runs rfl (ex_box1m h _ _ rfl _ rfl) ?_; clear h; rintro _ w ⟨g, rfl, h⟩) | (refine wl_runs rfl (ex_slice1 h _ _ rfl _ rfl) ?_; clear h; rintro _ w ⟨g, rfl, h⟩) | (refine wl_runs rfl (ex_slice1i h _ _ rfl _ _ rfl) ?_; clear h; rintro _ w ⟨g, rfl, h⟩) | (refine wl_runs rfl (ex_slice1s h _ _ rfl _ _ _ rfl) ?_; clear h; rintro _ w ⟨g, rfl, h⟩) | (refine wl_runs rfl (ex_slice1b h _ _ rfl _ rfl) ?_; clear h; rintro _ w ⟨g, rfl, h⟩) | (refine wl_runs rfl (ex_slice1t h _ _ rfl _ rfl) ?_; clear h; rintro _ w ⟨g, rfl, h⟩) | (refine wl_runs rfl (ex_slice1p h _ _ rfl _ rfl) ?_; clear h; rintro _ w ⟨g, rfl, h⟩) | (refine wl_runs rfl (ex_slice1m h _ _ rfl _ rfl) ?_; clear h; rintro _ w ⟨g, rfl, h⟩) | (refine wl_reads rfl (ex_lit0 _ rfl) ?_))
      go_end0
      exact IterEnd.ends (pre := pre) (Lf := EL gn gr g R 0 s []) (fun _ => ⟨by rw [Hs.out]; simp [idsN], 0, by rw [Hs.out]; rfl⟩) h (hJ _ _ _ _ _ _ _ hJp (Step.refl _ _) (fun i hi => ⟨.inl hi, (h.owns_lt hi).1⟩) (fun i hi => ⟨.inr (.inl (reads_EL.1 hi)), h.reads_lt hi⟩))

/-- What the loop over ids keeps. -/
def IdsKeep (go : Nat) (F : List Ent) (pre : List Id) (L : List Ent) : Prop := ∃ A c, L = eBlk go 24 [.slice A pre.length c] :: eOwn 26 32 A pre.length c (pre.flatMap idc) :: F
def IdsAx (go : Nat) (F : List Ent) (t : Array Value) (pre : List Id) (x : Id) (a' : Act) (L : List Ent) : Prop := ∃ g6 A c, a' = { tmps := (t.setIfInBounds 17 (.agg (u8s x.1).toArray)).setIfInBounds 6 (.pointer (some ⟨g6, 0, none⟩)), defers := [] } ∧ L = eBlk g6 26 (u8s x.1) :: eBlk go 24 [.slice A pre.length c] :: eOwn 26 32 A pre.length c (pre.flatMap idc) :: F
set_option maxRecDepth 100000 in
set_option maxHeartbeats 1000000 in
theorem rd_ids {S : Nat → Prop} {w0 w : World} {L F : List Ent} {g : Nat} {R : Nat → Prop} {s : RS} (h : St S w0 w L) [k : SlotR L g 128 true R s F] {most : Nat} (hm : most ≤ 100000) :
    Calls Try.prog 53 #[.pointer (some ⟨g, 0, none⟩), .int .i64 (most : Int)] w fun e w' => ∃ A c, e = .returned (.slice A (idsT most s).1.length c) ∧ St S w0 w' (eRd 128 true g R (idsT most s).2 :: eOwn 26 32 A (idsT most s).1.length c ((idsT most s).1.flatMap idc) :: F) := by
  have hle := numT_le most s
  obtain ⟨Y, hY⟩ : ∃ Y, idsT most s = Y := ⟨_, rfl⟩
  have HY := Lib.hid hY
  rw [hY]
  clear hY
  obtain ⟨I, s2⟩ := Y
  obtain ⟨N, hN⟩ : ∃ N, numT most s = N := ⟨_, rfl⟩
  have HN := Lib.hid hN
  rw [hN] at hle
  clear hN
  obtain ⟨n, s1⟩ := N
  simp only at hle ⊢
  refine callsIn_wide.1 (callsIn_of_wp_marks (F := Fence.wide) (n := 3) Try.func53 rfl trivial ?_ rfl)
  simp only [Try.ntmps53, List.size_toArray, List.length_cons, List.length_nil, Nat.reduceAdd, Nat.reduceSub, Array.replicate_succ, Array.replicate_zero, List.push_toArray, List.append_toArray, List.nil_append, List.cons_append]
  refine wpIn_wide.2 ?_
  go_wp2_with (first
    | (go_at_call 55; refine (rd_n (most := most) h (by omega)).mono ?_; rw [HN.out]; clear h; rintro e w ⟨rfl, h⟩)
    | (go_at_call 91; refine (each_make (g := g) (k := n) (F := F) h).mono ?_; clear h; rintro e w ⟨gn, gr, rfl, h⟩)
    | (refine wl_runs rfl (ex_alloc h 24 rfl) ?_; clear h; rintro _ w ⟨go, rfl, h⟩)
    | (refine wl_reads rfl (ex_loadv h _ _ rfl _ _ rfl) ?_) | (refine wl_runs rfl (ex_store1i h _ _ _ rfl _ _ rfl _ _ rfl) ?_; clear h; rintro _ w ⟨rfl, h⟩; try dsimp only [Act.put]) | (refine wl_runs rfl (ex_store1s h _ _ _ rfl _ _ rfl _ _ _ rfl) ?_; clear h; rintro _ w ⟨rfl, h⟩; try dsimp only [Act.put]) | (refine wl_runs rfl (ex_store1b h _ _ _ rfl _ _ rfl _ rfl) ?_; clear h; rintro _ w ⟨rfl, h⟩; try dsimp only [Act.put]) | (refine wl_runs rfl (ex_store1t h _ _ _ rfl _ _ rfl _ rfl) ?_; clear h; rintro _ w ⟨rfl, h⟩; try dsimp only [Act.put]) | (refine wl_runs rfl (ex_store1p h _ _ _ rfl _ _ rfl _ rfl) ?_; clear h; rintro _ w ⟨rfl, h⟩; try dsimp only [Act.put]) | (refine wl_runs rfl (ex_store1m h _ _ _ rfl _ _ rfl _ rfl) ?_; clear h; rintro _ w ⟨rfl, h⟩; try dsimp only [Act.put]) | (refine wl_runs rfl (ex_store h _ _ _ rfl _ _ rfl _ rfl) ?_; clear h; rintro _ w ⟨rfl, h⟩; try dsimp only [Act.put]) | (refine wl_runs rfl (ex_alloc h _ rfl) ?_; clear h; rintro _ w ⟨g, rfl, h⟩) | (refine wl_runs rfl (ex_box h _ _ rfl _ rfl) ?_; clear h; rintro _ w ⟨g, rfl, h⟩) | (refine wl_runs rfl (ex_box1i h _ _ rfl _ _ rfl) ?_; clear h; rintro _ w ⟨g, rfl, h⟩) | (refine wl_runs rfl (ex_box1s h _ _ rfl _ _ _ rfl) ?_; clear h; rintro _ w ⟨g, rfl, h⟩) | (refine wl_runs rfl (ex_box1b h _ _ rfl _ rfl) ?_; clear h; rintro _ w ⟨g, rfl, h⟩) | (refine wl_runs rfl (ex_box1t h _ _ rfl _ rfl) ?_; clear h; rintro _ w ⟨g, rfl, h⟩) | (refine wl_runs rfl (ex_box1p h _ _ rfl _ rfl) ?_; clear h; rintro _ w ⟨g, rfl, h⟩) | (refine wl_runs rfl (ex_box1m h _ _ rfl _ rfl) ?_; clear h; rintro _ w ⟨g, rfl, h⟩) | (refine wl_runs rfl (ex_slice1 h _ _ rfl _ rfl) ?_; clear h; rintro _ w ⟨g, rfl, h⟩) | (refine wl_runs rfl (ex_slice1i h _ _ rfl _ _ rfl) ?_; clear h; rintro _ w ⟨g, rfl, h⟩) | (refine wl_runs rfl (ex_slice1s h _ _ rfl _ _ _ rfl) ?_; clear h; rintro _ w ⟨g, rfl, h⟩) | (refine wl_runs rfl (ex_slice1b h _ _ rfl _ rfl) ?_; clear h; rintro _ w ⟨g, rfl, h⟩) | (refine wl_runs rfl (ex_slice1t h _ _ rfl _ rfl) ?_; clear h; rintro _ w ⟨g, rfl, h⟩) | (refine wl_runs rfl (ex_slice1p h _ _ rfl _ rfl) ?_; clear h; rintro _ w ⟨g, rfl, h⟩) | (refine wl_runs rfl (ex_slice1m h _ _ rfl _ rfl) ?_; clear h; rintro _ w ⟨g, rfl, h⟩) | (refine wl_reads rfl (ex_lit0 _ rfl) ?_))
  replace h : St S w0 w (EL gn gr g R n s1 [] ++ (eBlk go 24 [.slice none 0 0] :: eOwn 26 32 none 0 0 [] :: F)) := by
    have h2 := h.nilRow 26 32
    have h3 : St S w0 w (EL gn gr g R n s1 (eBlk go 24 [.slice none 0 0] :: eOwn 26 32 none 0 0 [] :: F)) := h2.to
    exact h3
  refine wp_iter rfl (enters_of Try.func108 (by kernel_rfl) rfl) (each_iters (by omega)) (fun _ => rfl) h (IdsKeep go F) (fun _ _ _ => False) (IdsAx go F) ⟨none, 0, rfl⟩ ?assign ?body ?done ?stop
  case assign =>
    rintro l T X O R' pre x L W ⟨A, c, rfl⟩ _ h
    rw [zip1]
    unfold idc
    simp only [List.setIfInBounds_toArray, List.set_cons_succ, List.set_cons_zero]
    gi_wp2_with (first
      | (refine wi_runs rfl (ex_alloc h 26 rfl) ?_; clear h; rintro _ w ⟨g6, rfl, h⟩)
      | (refine wi_reads rfl (ex_loadv h _ _ rfl _ _ rfl) ?_) | (refine wi_runs rfl (ex_store1i h _ _ _ rfl _ _ rfl _ _ rfl) ?_; clear h; rintro _ w ⟨rfl, h⟩; try dsimp only [Act.put]) | (refine wi_runs rfl (ex_store1s h _ _ _ rfl _ _ rfl _ _ _ rfl) ?_; clear h; rintro _ w ⟨rfl, h⟩; try dsimp only [Act.put]) | (refine wi_runs rfl (ex_store1b h _ _ _ rfl _ _ rfl _ rfl) ?_; clear h; rintro _ w ⟨rfl, h⟩; try dsimp only [Act.put]) | (refine wi_runs rfl (ex_store1t h _ _ _ rfl _ _ rfl _ rfl) ?_; clear h; rintro _ w ⟨rfl, h⟩; try dsimp only [Act.put]) | (refine wi_runs rfl (ex_store1p h _ _ _ rfl _ _ rfl _ rfl) ?_; clear h; rintro _ w ⟨rfl, h⟩; try dsimp only [Act.put]) | (refine wi_runs rfl (ex_store1m h _ _ _ rfl _ _ rfl _ rfl) ?_; clear h; rintro _ w ⟨rfl, h⟩; try dsimp only [Act.put]) | (refine wi_runs rfl (ex_store h _ _ _ rfl _ _ rfl _ rfl) ?_; clear h; rintro _ w ⟨rfl, h⟩; try dsimp only [Act.put]) | (refine wi_runs rfl (ex_alloc h _ rfl) ?_; clear h; rintro _ w ⟨g, rfl, h⟩) | (refine wi_runs rfl (ex_box h _ _ rfl _ rfl) ?_; clear h; rintro _ w ⟨g, rfl, h⟩) | (refine wi_runs rfl (ex_box1i h _ _ rfl _ _ rfl) ?_; clear h; rintro _ w ⟨g, rfl, h⟩) | (refine wi_runs rfl (ex_box1s h _ _ rfl _ _ _ rfl) ?_; clear h; rintro _ w ⟨g, rfl, h⟩) | (refine wi_runs rfl (ex_box1b h _ _ rfl _ rfl) ?_; clear h; rintro _ w ⟨g, rfl, h⟩) | (refine wi_runs rfl (ex_box1t h _ _ rfl _ rfl) ?_; clear h; rintro _ w ⟨g, rfl, h⟩) | (refine wi_runs rfl (ex_box1p h _ _ rfl _ rfl) ?_; clear h; rintro _ w ⟨g, rfl, h⟩) | (refine wi_runs rfl (ex_box1m h _ _ rfl _ rfl) ?_; clear h; rintro _ w ⟨g, rfl, h⟩) | (refine wi_runs rfl (ex_slice1 h _ _ rfl _ rfl) ?_; clear h; rintro _ w ⟨g, rfl, h⟩) | (refine wi_runs rfl (ex_slice1i h _ _ rfl _ _ rfl) ?_; clear h; rintro _ w ⟨g, rfl, h⟩) | (refine wi_runs rfl (ex_slice1s h _ _ rfl _ _ _ rfl) ?_; clear h; rintro _ w ⟨g, rfl, h⟩) | (refine wi_runs rfl (ex_slice1b h _ _ rfl _ rfl) ?_; clear h; rintro _ w ⟨g, rfl, h⟩) | (refine wi_runs rfl (ex_slice1t h _ _ rfl _ rfl) ?_; clear h; rintro _ w ⟨g, rfl, h⟩) | (refine wi_runs rfl (ex_slice1p h _ _ rfl _ rfl) ?_; clear h; rintro _ w ⟨g, rfl, h⟩) | (refine wi_runs rfl (ex_slice1m h _ _ rfl _ rfl) ?_; clear h; rintro _ w ⟨g, rfl, h⟩) | (refine wi_reads rfl (ex_lit0 _ rfl) ?_))
    exact ⟨_, ⟨g6, A, c, rfl, rfl⟩, h.to⟩
  case body =>
    rintro l T X O R' pre x a' L W W2 ⟨g6, A, c, rfl, rfl⟩ hok h
    have hlen : pre.length + 1 ≤ n := by
      have h1 := hok.length_le
      have h2 := idsN_len n s1
      simp only [List.length_append, List.length_cons, List.length_nil] at h1
      omega
    have hrx : Row (u8s x.1) 32 := Row.u32 x
    clear hok
    simp only [List.setIfInBounds_toArray, List.set_cons_succ, List.set_cons_zero]
    gi_wp2_with (first
      | (refine wi_runs rfl (ex_append h _ _ _ rfl A rfl (some ⟨g, 0, none⟩) 1 1 rfl (h.slBox g) hrx.one (by simp [maxLen]; omega) (by omega)) ?_; clear h; rintro _ w ⟨A2, c2, rfl, h⟩)
      | (refine wi_reads rfl (ex_loadv h _ _ rfl _ _ rfl) ?_) | (refine wi_runs rfl (ex_store1i h _ _ _ rfl _ _ rfl _ _ rfl) ?_; clear h; rintro _ w ⟨rfl, h⟩; try dsimp only [Act.put]) | (refine wi_runs rfl (ex_store1s h _ _ _ rfl _ _ rfl _ _ _ rfl) ?_; clear h; rintro _ w ⟨rfl, h⟩; try dsimp only [Act.put]) | (refine wi_runs rfl (ex_store1b h _ _ _ rfl _ _ rfl _ rfl) ?_; clear h; rintro _ w ⟨rfl, h⟩; try dsimp only [Act.put]) | (refine wi_runs rfl (ex_store1t h _ _ _ rfl _ _ rfl _ rfl) ?_; clear h; rintro _ w ⟨rfl, h⟩; try dsimp only [Act.put]) | (refine wi_runs rfl (ex_store1p h _ _ _ rfl _ _ rfl _ rfl) ?_; clear h; rintro _ w ⟨rfl, h⟩; try dsimp only [Act.put]) | (refine wi_runs rfl (ex_store1m h _ _ _ rfl _ _ rfl _ rfl) ?_; clear h; rintro _ w ⟨rfl, h⟩; try dsimp only [Act.put]) | (refine wi_runs rfl (ex_store h _ _ _ rfl _ _ rfl _ rfl) ?_; clear h; rintro _ w ⟨rfl, h⟩; try dsimp only [Act.put]) | (refine wi_runs rfl (ex_alloc h _ rfl) ?_; clear h; rintro _ w ⟨g, rfl, h⟩) | (refine wi_runs rfl (ex_box h _ _ rfl _ rfl) ?_; clear h; rintro _ w ⟨g, rfl, h⟩) | (refine wi_runs rfl (ex_box1i h _ _ rfl _ _ rfl) ?_; clear h; rintro _ w ⟨g, rfl, h⟩) | (refine wi_runs rfl (ex_box1s h _ _ rfl _ _ _ rfl) ?_; clear h; rintro _ w ⟨g, rfl, h⟩) | (refine wi_runs rfl (ex_box1b h _ _ rfl _ rfl) ?_; clear h; rintro _ w ⟨g, rfl, h⟩) | (refine wi_runs rfl (ex_box1t h _ _ rfl _ rfl) ?_; clear h; rintro _ w ⟨g, rfl, h⟩) | (refine wi_runs rfl (ex_box1p h _ _ rfl _ rfl) ?_; clear h; rintro _ w ⟨g, rfl, h⟩) | (refine wi_runs rfl (ex_box1m h _ _ rfl _ rfl) ?_; clear h; rintro _ w ⟨g, rfl, h⟩) | (refine wi_runs rfl (ex_slice1 h _ _ rfl _ rfl) ?_; clear h; rintro _ w ⟨g, rfl, h⟩) | (refine wi_runs rfl (ex_slice1i h _ _ rfl _ _ rfl) ?_; clear h; rintro _ w ⟨g, rfl, h⟩) | (refine wi_runs rfl (ex_slice1s h _ _ rfl _ _ _ rfl) ?_; clear h; rintro _ w ⟨g, rfl, h⟩) | (refine wi_runs rfl (ex_slice1b h _ _ rfl _ rfl) ?_; clear h; rintro _ w ⟨g, rfl, h⟩) | (refine wi_runs rfl (ex_slice1t h _ _ rfl _ rfl) ?_; clear h; rintro _ w ⟨g, rfl, h⟩) | (refine wi_runs rfl (ex_slice1p h _ _ rfl _ rfl) ?_; clear h; rintro _ w ⟨g, rfl, h⟩) | (refine wi_runs rfl (ex_slice1m h _ _ rfl _ rfl) ?_; clear h; rintro _ w ⟨g, rfl, h⟩) | (refine wi_reads rfl (ex_lit0 _ rfl) ?_))
    refine ⟨_, ⟨A2, c2, rfl⟩, ?_⟩
    have e1 : (pre ++ [x]).length = pre.length + 1 := by simp
    have e2 : (pre ++ [x]).flatMap idc = pre.flatMap idc ++ u8s x.1 := by simp [idc]
    rw [e1, e2]
    exact h.to
  case done =>
    rintro D pre L Lf W ⟨A, c, rfl⟩ hfin h
    obtain ⟨rfl, k2, rfl⟩ := hfin rfl
    replace h : St S w0 W (eDfr D :: EL gn gr g R k2 (idsN n s1).2 (eBlk go 24 [.slice A (idsN n s1).1.length c] :: eOwn 26 32 A (idsN n s1).1.length c ((idsN n s1).1.flatMap idc) :: F)) := h
    clear hfin
    have Hs2 := Lib.hid (show ∀ u, (idsN n s1).2 = u → (I, s2) = match u with | none => ([], none) | some r => ((idsN n s1).1, some r) from fun u hu => by rw [← HY.out, idsT, HN.out]; simp only; rw [hu]; cases u <;> rfl)
    generalize (idsN n s1).1 = I2 at *
    generalize (idsN n s1).2 = u at *
    have Hs3 := Lib.hid (Hs2.out u rfl)
    clear Hs2
    cases u with
    | none =>
      obtain ⟨rfl, rfl⟩ : I = [] ∧ s2 = none := by have := Hs3.out; cases this; exact ⟨rfl, rfl⟩
      go_wp2_with (first
        | (go_at_call 92; refine (rd_ok (g := g) h).mono ?_; rintro e w ⟨rfl, rfl⟩)
        | (refine wl_reads rfl (ex_loadv h _ _ rfl _ _ rfl) ?_) | (refine wl_runs rfl (ex_store1i h _ _ _ rfl _ _ rfl _ _ rfl) ?_; clear h; rintro _ w ⟨rfl, h⟩; try dsimp only [Act.put]) | (refine wl_runs rfl (ex_store1s h _ _ _ rfl _ _ rfl _ _ _ rfl) ?_; clear h; rintro _ w ⟨rfl, h⟩; try dsimp only [Act.put]) | (refine wl_runs rfl (ex_store1b h _ _ _ rfl _ _ rfl _ rfl) ?_; clear h; rintro _ w ⟨rfl, h⟩; try dsimp only [Act.put]) | (refine wl_runs rfl (ex_store1t h _ _ _ rfl _ _ rfl _ rfl) ?_; clear h; rintro _ w ⟨rfl, h⟩; try dsimp only [Act.put]) | (refine wl_runs rfl (ex_store1p h _ _ _ rfl _ _ rfl _ rfl) ?_; clear h; rintro _ w ⟨rfl, h⟩; try dsimp only [Act.put]) | (refine wl_runs rfl (ex_store1m h _ _ _ rfl _ _ rfl _ rfl) ?_; clear h; rintro _ w ⟨rfl, h⟩; try dsimp only [Act.put]) | (refine wl_runs rfl (ex_store h _ _ _ rfl _ _ rfl _ rfl) ?_; clear h; rintro _ w ⟨rfl, h⟩; try dsimp only [Act.put]) | (refine wl_runs rfl (ex_alloc h _ rfl) ?_; clear h; rintro _ w ⟨g, rfl, h⟩) | (refine wl_runs rfl (ex_box h _ _ rfl _ rfl) ?_; clear h; rintro _ w ⟨g, rfl, h⟩) | (refine wl_runs rfl (ex_box1i h _ _ rfl _ _ rfl) ?_; clear h; rintro _ w ⟨g, rfl, h⟩) | (refine wl_runs rfl (ex_box1s h _ _ rfl _ _ _ rfl) ?_; clear h; rintro _ w ⟨g, rfl, h⟩) | (refine wl_runs rfl (ex_box1b h _ _ rfl _ rfl) ?_; clear h; rintro _ w ⟨g, rfl, h⟩) | (refine wl_runs rfl (ex_box1t h _ _ rfl _ rfl) ?_; clear h; rintro _ w ⟨g, rfl, h⟩) | (refine wl_runs rfl (ex_box1p h _ _ rfl _ rfl) ?_; clear h; rintro _ w ⟨g, rfl, h⟩) | (refine wl_runs rfl (ex_box1m h _ _ rfl _ rfl) ?_; clear h; rintro _ w ⟨g, rfl, h⟩) | (refine wl_runs rfl (ex_slice1 h _ _ rfl _ rfl) ?_; clear h; rintro _ w ⟨g, rfl, h⟩) | (refine wl_runs rfl (ex_slice1i h _ _ rfl _ _ rfl) ?_; clear h; rintro _ w ⟨g, rfl, h⟩) | (refine wl_runs rfl (ex_slice1s h _ _ rfl _ _ _ rfl) ?_; clear h; rintro _ w ⟨g, rfl, h⟩) | (refine wl_runs rfl (ex_slice1b h _ _ rfl _ rfl) ?_; clear h; rintro _ w ⟨g, rfl, h⟩) | (refine wl_runs rfl (ex_slice1t h _ _ rfl _ rfl) ?_; clear h; rintro _ w ⟨g, rfl, h⟩) | (refine wl_runs rfl (ex_slice1p h _ _ rfl _ rfl) ?_; clear h; rintro _ w ⟨g, rfl, h⟩) | (refine wl_runs rfl (ex_slice1m h _ _ rfl _ rfl) ?_; clear h; rintro _ w ⟨g, rfl, h⟩) | (refine wl_reads rfl (ex_lit0 _ rfl) ?_))
      refine ret_mark h.dfr rfl (results_tmp rfl _ _ _) ⟨none, 0, rfl, ?_⟩
      have h5 : St S w0 _ (eRd 128 true g R none :: eOwn 26 32 none 0 0 [] :: F) := ((h.putDfr (D := D)).nilRow 26 32).to
      exact h5
    | some r =>
      obtain ⟨rfl, rfl⟩ : I = I2 ∧ s2 = some r := by have := Hs3.out; cases this; exact ⟨rfl, rfl⟩
      go_wp2_with (first
        | (go_at_call 92; refine (rd_ok (g := g) h).mono ?_; rintro e w ⟨rfl, rfl⟩)
        | (refine wl_reads rfl (ex_loadv h _ _ rfl _ _ rfl) ?_) | (refine wl_runs rfl (ex_store1i h _ _ _ rfl _ _ rfl _ _ rfl) ?_; clear h; rintro _ w ⟨rfl, h⟩; try dsimp only [Act.put]) | (refine wl_runs rfl (ex_store1s h _ _ _ rfl _ _ rfl _ _ _ rfl) ?_; clear h; rintro _ w ⟨rfl, h⟩; try dsimp only [Act.put]) | (refine wl_runs rfl (ex_store1b h _ _ _ rfl _ _ rfl _ rfl) ?_; clear h; rintro _ w ⟨rfl, h⟩; try dsimp only [Act.put]) | (refine wl_runs rfl (ex_store1t h _ _ _ rfl _ _ rfl _ rfl) ?_; clear h; rintro _ w ⟨rfl, h⟩; try dsimp only [Act.put]) | (refine wl_runs rfl (ex_store1p h _ _ _ rfl _ _ rfl _ rfl) ?_; clear h; rintro _ w ⟨rfl, h⟩; try dsimp only [Act.put]) | (refine wl_runs rfl (ex_store1m h _ _ _ rfl _ _ rfl _ rfl) ?_; clear h; rintro _ w ⟨rfl, h⟩; try dsimp only [Act.put]) | (refine wl_runs rfl (ex_store h _ _ _ rfl _ _ rfl _ rfl) ?_; clear h; rintro _ w ⟨rfl, h⟩; try dsimp only [Act.put]) | (refine wl_runs rfl (ex_alloc h _ rfl) ?_; clear h; rintro _ w ⟨g, rfl, h⟩) | (refine wl_runs rfl (ex_box h _ _ rfl _ rfl) ?_; clear h; rintro _ w ⟨g, rfl, h⟩) | (refine wl_runs rfl (ex_box1i h _ _ rfl _ _ rfl) ?_; clear h; rintro _ w ⟨g, rfl, h⟩) | (refine wl_runs rfl (ex_box1s h _ _ rfl _ _ _ rfl) ?_; clear h; rintro _ w ⟨g, rfl, h⟩) | (refine wl_runs rfl (ex_box1b h _ _ rfl _ rfl) ?_; clear h; rintro _ w ⟨g, rfl, h⟩) | (refine wl_runs rfl (ex_box1t h _ _ rfl _ rfl) ?_; clear h; rintro _ w ⟨g, rfl, h⟩) | (refine wl_runs rfl (ex_box1p h _ _ rfl _ rfl) ?_; clear h; rintro _ w ⟨g, rfl, h⟩) | (refine wl_runs rfl (ex_box1m h _ _ rfl _ rfl) ?_; clear h; rintro _ w ⟨g, rfl, h⟩) | (refine wl_runs rfl (ex_slice1 h _ _ rfl _ rfl) ?_; clear h; rintro _ w ⟨g, rfl, h⟩) | (refine wl_runs rfl (ex_slice1i h _ _ rfl _ _ rfl) ?_; clear h; rintro _ w ⟨g, rfl, h⟩) | (refine wl_runs rfl (ex_slice1s h _ _ rfl _ _ _ rfl) ?_; clear h; rintro _ w ⟨g, rfl, h⟩) | (refine wl_runs rfl (ex_slice1b h _ _ rfl _ rfl) ?_; clear h; rintro _ w ⟨g, rfl, h⟩) | (refine wl_runs rfl (ex_slice1t h _ _ rfl _ rfl) ?_; clear h; rintro _ w ⟨g, rfl, h⟩) | (refine wl_runs rfl (ex_slice1p h _ _ rfl _ rfl) ?_; clear h; rintro _ w ⟨g, rfl, h⟩) | (refine wl_runs rfl (ex_slice1m h _ _ rfl _ rfl) ?_; clear h; rintro _ w ⟨g, rfl, h⟩) | (refine wl_reads rfl (ex_lit0 _ rfl) ?_))
      refine ret_mark h.dfr rfl (results_tmp rfl _ _ _) ⟨A, c, rfl, ?_⟩
      exact (h.putDfr).to
  case stop =>
    rintro D c pre L Lf W hx
    exact hx.elim
end Go.Proofs.Ytjnaiicgincndaa
