/- The law MarkWalks: what is reached from any roots, level by level. -/
import Derived.Test.YtionnlckjjojnaaCMarkSweeps
import Derived.Test.YtionnlckjjojnaaCB1
namespace Go.Proofs.Ytionnlckjjojnaa
open Go.RowKit Go.Shelf Go.Maps
set_option linter.unusedVariables false
set_option linter.unusedSimpArgs false

theorem walk_at {W pre : List (Nat × Id)} {x : Nat × Id} (h : pre ++ [x] <+: W) : ∃ hl : pre.length < W.length, W[pre.length] = x := by
  obtain ⟨t, rfl⟩ := h
  exact ⟨by simp, by simp⟩
def WksP (g5 g6 g7 g8 g9 : Nat) (most : Int) (A1 A2 : Option Addr) (c1 c2 : Nat) (W : List (Nat × Id)) (b : Bool) (n : Int) : List Ent :=
  eBlk g9 3 [.int .i64 n] :: eBlk g7 23 [.slice A1 W.length c1] :: eBlk g8 26 [.slice A2 W.length c2] :: eBlk g5 3 [.int .i64 most] :: eBlk g6 4 [.bool b] :: eOwn 33 32 A1 W.length c1 ((W.map fun p => p.2).flatMap idc) :: eOwn 3 1 A2 W.length c2 (W.map fun p => natI p.1) :: []
def WksL (g5 g6 g7 g8 g9 : Nat) (most : Int) (A1 A2 : Option Addr) (c1 c2 : Nat) (W : List (Nat × Id)) (pre : List (Nat × Id)) (L : List Ent) : Prop := L = WksP g5 g6 g7 g8 g9 most A1 A2 c1 c2 W false (pre.length : Int)
def WksX (g5 g6 g7 g8 g9 : Nat) (most : Int) (A1 A2 : Option Addr) (c1 c2 : Nat) (W : List (Nat × Id)) (c : Code) (pre : List (Nat × Id)) (L : List Ent) : Prop := c = .ret ∧ ∃ n, L = WksP g5 g6 g7 g8 g9 most A1 A2 c1 c2 W true n
def WksAx (g5 g6 g7 g8 g9 : Nat) (most : Int) (A1 A2 : Option Addr) (c1 c2 : Nat) (W : List (Nat × Id)) (t : Array Value) (pre : List (Nat × Id)) (x : Nat × Id) (a' : Act) (L : List Ent) : Prop := ∃ g11, a' = { tmps := ((((t.setIfInBounds 35 (natI x.1)).setIfInBounds 36 (.agg (u8s x.2.1).toArray)).setIfInBounds 10 (natI x.1)).setIfInBounds 11 (.pointer (some ⟨g11, 0, none⟩))), defers := [] } ∧ L = eBlk g11 33 (u8s x.2.1) :: WksP g5 g6 g7 g8 g9 most A1 A2 c1 c2 W false (pre.length : Int)
attribute [local go_sem] Oper.semAt_some
set_option maxRecDepth 100000 in
set_option maxHeartbeats 4000000 in
theorem walk_MarkWalks {w0 : World} {A B : Option Addr} {n c m d : Nat} {ps : List ObAt} {roots : List Id} {most : Int} (hA : Sl w0 A n c 34 (ps.flatMap obc)) (hps : LinksIs w0 ps) (hB : Sl w0 B m d 32 (roots.flatMap idc)) (hmost : (Lit.int .i64 most).wf = true) :
    Calls Try.prog 3 #[.slice A n c, .slice B m d, .int .i64 most] w0 fun e w' => e = .returned (.bool true) ∧ Below w0.heap.size w0 w' := by
  have hn := hA.n_flat obc_length (by omega)
  have hm := hB.n_flat idc_length (by omega)
  subst hn hm
  have h : St (fun _ => False) w0 w0 (eObs obc A ps.length c ps :: eSl B roots.length d 32 (roots.flatMap idc) :: []) := ((St.obs0 hA hps).reading hB (by omega) (fun k hk => ⟨hB.ft_lt (by omega) hk, id⟩)).to
  clear hA hps hB hmost
  cases hf : fewM ps with
  | false =>
    have Hf := Lib.hid hf
    clear hf
    refine callsIn_wide.1 (callsIn_of_wp_marks (F := Fence.wide) (n := 3) Try.func3 rfl trivial ?_ rfl)
    simp only [Try.ntmps3, List.size_toArray, List.length_cons, List.length_nil, Nat.reduceAdd, Nat.reduceSub, Array.replicate_succ, Array.replicate_zero, List.push_toArray, List.append_toArray, List.nil_append, List.cons_append]
    refine wpIn_wide.2 ?_
    go_wp2_with (first | (refine wl_at 5 rfl ?_; refine wl_runs rfl (ex_box1i h 3 _ rfl _ _ rfl) ?_; clear h; rintro _ w ⟨g5, rfl, h⟩; try simp only [Act.put, List.setIfInBounds_toArray, List.set_cons_zero, List.set_cons_succ]) | (refine wl_at 6 rfl ?_; refine wl_runs rfl (ex_alloc h 4 rfl) ?_; clear h; rintro _ w ⟨g6, rfl, h⟩; try simp only [Act.put, List.setIfInBounds_toArray, List.set_cons_zero, List.set_cons_succ]) | (go_at_call 11; refine (mark_awake h).mono ?_; clear h; rintro r w ⟨rfl, h⟩) | (go_at_call 12; refine (few_obs (A := A) (c := c) (ps := ps) h).mono ?_; rw [Hf.out]; clear h; rintro r w ⟨rfl, h⟩) | (refine wl_runs rfl (ex_store1b h _ _ _ rfl _ _ rfl _ rfl) ?_; clear h; rintro _ w ⟨rfl, h⟩; try dsimp only [Act.put]) | (refine wl_reads rfl (ex_loadv h _ _ rfl _ _ rfl) ?_; try simp only [Act.put, List.setIfInBounds_toArray, List.set_cons_zero, List.set_cons_succ]))
    exact ret_plain (res_cell1 rfl rfl (h.loadVar1 4 g6 0)) rfl ⟨rfl, h.step.below⟩
  | true =>
    obtain ⟨hl, hls⟩ := few_lens hf
    have Hf := Lib.hid hf
    have Hls := Lib.hid (fun p hp => by have := hls p hp; omega : ∀ p ∈ ps, p.links.length ≤ 1000000)
    clear hf hls
    by_cases hr : 20 < roots.length
    · have f1 : (20 : Int) < (roots.length : Int) := by omega
      refine callsIn_wide.1 (callsIn_of_wp_marks (F := Fence.wide) (n := 3) Try.func3 rfl trivial ?_ rfl)
      simp only [Try.ntmps3, List.size_toArray, List.length_cons, List.length_nil, Nat.reduceAdd, Nat.reduceSub, Array.replicate_succ, Array.replicate_zero, List.push_toArray, List.append_toArray, List.nil_append, List.cons_append]
      refine wpIn_wide.2 ?_
      go_wp2_with (first | (refine wl_at 5 rfl ?_; refine wl_runs rfl (ex_box1i h 3 _ rfl _ _ rfl) ?_; clear h; rintro _ w ⟨g5, rfl, h⟩; try simp only [Act.put, List.setIfInBounds_toArray, List.set_cons_zero, List.set_cons_succ]) | (refine wl_at 6 rfl ?_; refine wl_runs rfl (ex_alloc h 4 rfl) ?_; clear h; rintro _ w ⟨g6, rfl, h⟩; try simp only [Act.put, List.setIfInBounds_toArray, List.set_cons_zero, List.set_cons_succ]) | (go_at_call 11; refine (mark_awake h).mono ?_; clear h; rintro r w ⟨rfl, h⟩) | (go_at_call 12; refine (few_obs (A := A) (c := c) (ps := ps) h).mono ?_; rw [Hf.out]; clear h; rintro r w ⟨rfl, h⟩) | (refine wl_runs rfl (ex_store1b h _ _ _ rfl _ _ rfl _ rfl) ?_; clear h; rintro _ w ⟨rfl, h⟩; try dsimp only [Act.put]) | (refine wl_reads rfl (ex_loadv h _ _ rfl _ _ rfl) ?_; try simp only [Act.put, List.setIfInBounds_toArray, List.set_cons_zero, List.set_cons_succ]))
      exact ret_plain (res_cell1 rfl rfl (h.loadVar1 4 g6 0)) rfl ⟨rfl, h.step.below⟩
    · have f1 : decide ((20 : Int) < (roots.length : Int)) = false := by simp; omega
      by_cases hneg : most < 0
      · skip
        refine callsIn_wide.1 (callsIn_of_wp_marks (F := Fence.wide) (n := 3) Try.func3 rfl trivial ?_ rfl)
        simp only [Try.ntmps3, List.size_toArray, List.length_cons, List.length_nil, Nat.reduceAdd, Nat.reduceSub, Array.replicate_succ, Array.replicate_zero, List.push_toArray, List.append_toArray, List.nil_append, List.cons_append]
        refine wpIn_wide.2 ?_
        go_wp2_with (first | (refine wl_at 5 rfl ?_; refine wl_runs rfl (ex_box1i h 3 _ rfl _ _ rfl) ?_; clear h; rintro _ w ⟨g5, rfl, h⟩; try simp only [Act.put, List.setIfInBounds_toArray, List.set_cons_zero, List.set_cons_succ]) | (refine wl_at 6 rfl ?_; refine wl_runs rfl (ex_alloc h 4 rfl) ?_; clear h; rintro _ w ⟨g6, rfl, h⟩; try simp only [Act.put, List.setIfInBounds_toArray, List.set_cons_zero, List.set_cons_succ]) | (go_at_call 11; refine (mark_awake h).mono ?_; clear h; rintro r w ⟨rfl, h⟩) | (go_at_call 12; refine (few_obs (A := A) (c := c) (ps := ps) h).mono ?_; rw [Hf.out]; clear h; rintro r w ⟨rfl, h⟩) | (refine wl_runs rfl (ex_store1b h _ _ _ rfl _ _ rfl _ rfl) ?_; clear h; rintro _ w ⟨rfl, h⟩; try dsimp only [Act.put]) | (refine wl_reads rfl (ex_loadv h _ _ rfl _ _ rfl) ?_; try simp only [Act.put, List.setIfInBounds_toArray, List.set_cons_zero, List.set_cons_succ]))
        exact ret_plain (res_cell1 rfl rfl (h.loadVar1 4 g6 0)) rfl ⟨rfl, h.step.below⟩
      · have hwl := walk_len (obsM ps) roots
        rw [List.length_map] at hwl
        have hll := linksM_length (reachM (obsM ps) roots)
        rw [show (reachM (obsM ps) roots).length = (walkM (obsM ps) roots).length by rw [reachM, List.length_map]] at hll
        obtain ⟨M, hM⟩ : ∃ M, linksM (reachM (obsM ps) roots) = M := ⟨_, rfl⟩
        have HM := Lib.hid hM
        rw [hM] at hll
        have hMl : M.length ≤ 30 := by omega
        have Hr := Lib.hid (show reachM (obsM ps) roots = (walkM (obsM ps) roots).map fun p => p.2 from rfl)
        have Hit := Lib.hid (walk_iters (gl := 0) (gr := 0) (A := A) (B := B) (c := c) (dr := d) (ps := ps) (roots := roots))
        obtain ⟨W, hW⟩ : ∃ W, walkM (obsM ps) roots = W := ⟨_, rfl⟩
        have HW := Lib.hid hW
        rw [hW] at hwl
        clear hM hll hW Hit
        refine callsIn_wide.1 (callsIn_of_wp_marks (F := Fence.wide) (n := 3) Try.func3 rfl trivial ?_ rfl)
        simp only [Try.ntmps3, List.size_toArray, List.length_cons, List.length_nil, Nat.reduceAdd, Nat.reduceSub, Array.replicate_succ, Array.replicate_zero, List.push_toArray, List.append_toArray, List.nil_append, List.cons_append]
        refine wpIn_wide.2 ?_
        go_wp2_with (first
          | (refine wl_at 5 rfl ?_; refine wl_runs rfl (ex_box1i h 3 _ rfl _ _ rfl) ?_; clear h; rintro _ w ⟨g5, rfl, h⟩; try simp only [Act.put, List.setIfInBounds_toArray, List.set_cons_zero, List.set_cons_succ]) | (refine wl_at 6 rfl ?_; refine wl_runs rfl (ex_alloc h 4 rfl) ?_; clear h; rintro _ w ⟨g6, rfl, h⟩; try simp only [Act.put, List.setIfInBounds_toArray, List.set_cons_zero, List.set_cons_succ]) | (go_at_call 11; refine (mark_awake h).mono ?_; clear h; rintro r w ⟨rfl, h⟩) | (go_at_call 12; refine (few_obs (A := A) (c := c) (ps := ps) h).mono ?_; rw [Hf.out]; clear h; rintro r w ⟨rfl, h⟩)
          | (refine wl_at 23 rfl ?_; refine wl_reads rfl (ex_loadv h _ _ rfl _ _ rfl) ?_)
          | (go_at_call 13; refine (walk_ref (A := A) (B := B) (c := c) (dr := d) (ps := ps) (roots := roots) h (by omega) Hls.out (by omega)).mono ?_; rw [Hr.out, HW.out]; clear h; rintro r w ⟨A1, c1, A2, c2, rfl, h⟩)
          | (refine wl_at 7 rfl ?_; refine wl_runs rfl (ex_alloc h 23 rfl) ?_; clear h; rintro _ w ⟨g7, rfl, h⟩; try simp only [Act.put, List.setIfInBounds_toArray, List.set_cons_zero, List.set_cons_succ])
          | (refine wl_at 8 rfl ?_; refine wl_runs rfl (ex_alloc h 26 rfl) ?_; clear h; rintro _ w ⟨g8, rfl, h⟩; try simp only [Act.put, List.setIfInBounds_toArray, List.set_cons_zero, List.set_cons_succ])
          | (refine wl_at 9 rfl ?_; refine wl_runs rfl (ex_alloc h 3 rfl) ?_; clear h; rintro _ w ⟨g9, rfl, h⟩; try simp only [Act.put, List.setIfInBounds_toArray, List.set_cons_zero, List.set_cons_succ])
          | (refine wl_none rfl ?_; refine wl_runs rfl (ex_store1s h _ _ _ rfl _ _ rfl _ _ _ rfl) ?_; clear h; rintro _ w ⟨rfl, h⟩; try simp only [Act.put, List.setIfInBounds_toArray, List.set_cons_zero, List.set_cons_succ])
          | (refine wl_none rfl ?_; refine wl_runs rfl (ex_store1i h _ _ _ rfl _ _ rfl _ _ rfl) ?_; clear h; rintro _ w ⟨rfl, h⟩; try simp only [Act.put, List.setIfInBounds_toArray, List.set_cons_zero, List.set_cons_succ])
          | (go_at_call 14; refine (walk_make (A := A) (B := B) (n := ps.length) (c := c) (m := roots.length) (d := d) h).mono ?_; clear h; rintro e w ⟨gl, gr, rfl, h⟩))
        replace h : St (fun _ => False) w0 w (WkL gl gr A c ps B d roots ++ WksP g5 g6 g7 g8 g9 most A1 A2 c1 c2 W false 0) := St.to (L' := eBlk gl 22 [.slice A ps.length c] :: eBlk gr 23 [.slice B roots.length d] :: eObs obc A ps.length c ps :: eSl B roots.length d 32 (roots.flatMap idc) :: eBlk g9 3 [.int .i64 0] :: eBlk g7 23 [.slice A1 W.length c1] :: eBlk g8 26 [.slice A2 W.length c2] :: eBlk g5 3 [.int .i64 most] :: eBlk g6 4 [.bool false] :: eOwn 33 32 A1 W.length c1 ((W.map fun p : Nat × Id => p.2).flatMap idc) :: eOwn 3 1 A2 W.length c2 (W.map fun p : Nat × Id => natI p.1) :: []) h
        refine wp_iter rfl (enters_of Try.func35 (by kernel_rfl) rfl) (walk_iters (by omega) Hls.out (by omega)) (fun _ => rfl) h (WksL g5 g6 g7 g8 g9 most A1 A2 c1 c2 W) (WksX g5 g6 g7 g8 g9 most A1 A2 c1 c2 W) (WksAx g5 g6 g7 g8 g9 most A1 A2 c1 c2 W) rfl ?assign ?body ?done ?stop
        case assign =>
          rintro l' T X O R' pre x L Wo rfl _ h
          have hrx : Row (u8s x.2.1) 32 := Row.u32 x.2
          rw [zip2]
          simp only [List.setIfInBounds_toArray, List.set_cons_succ, List.set_cons_zero]
          gi_wp2_with (first
            | (refine wi_runs rfl (ex_alloc h 33 rfl) ?_; clear h; rintro _ w ⟨g11, rfl, h⟩)
            | (refine wi_runs rfl (ex_store h _ _ _ rfl _ _ rfl (u8s x.2.1) rfl) ?_; clear h; rintro _ w ⟨rfl, h⟩; try dsimp only [Act.put]))
          exact ⟨_, ⟨g11, rfl, rfl⟩, h.to⟩
        case body =>
          rintro l' T X O R' pre x a' L Wo W2 ⟨g11, rfl, rfl⟩ hok h
          rw [HW.out] at hok
          obtain ⟨hlt, hat⟩ := walk_at hok
          have hrx : Row (u8s x.2.1) 32 := Row.u32 x.2
          obtain ⟨N, hN⟩ : ∃ N, pre.length = N := ⟨_, rfl⟩
          have HN := Lib.hid hN
          rw [hN] at hlt h
          have hat2 : Hid (W[N]? = some x) := Lib.hid (by rw [← hat, ← List.getElem?_eq_getElem, hN])
          clear hok hat hN
          unfold WksP at h
          simp only [List.setIfInBounds_toArray, List.set_cons_succ, List.set_cons_zero, natI]
          by_cases hmo : (N : Int) = most
          · have f2 : ((N : Int) == most) = true := by simp [hmo]
            gi_wp2_with (first | (refine wi_reads rfl (ex_loadv h _ _ rfl _ _ rfl) ?_) | (refine wi_runs rfl (ex_store1b h _ _ _ rfl _ _ rfl _ rfl) ?_; clear h; rintro _ w ⟨rfl, h⟩; try dsimp only [Act.put]))
            exact ⟨_, ⟨rfl, (N : Int), rfl⟩, h.to (L' := X :: eOp O R' Wo :: eBlk g9 3 [.int .i64 (N : Int)] :: eBlk g7 23 [.slice A1 W.length c1] :: eBlk g8 26 [.slice A2 W.length c2] :: eBlk g5 3 [.int .i64 most] :: eBlk g6 4 [.bool true] :: eOwn 33 32 A1 W.length c1 ((W.map fun p : Nat × Id => p.2).flatMap idc) :: eOwn 3 1 A2 W.length c2 (W.map fun p : Nat × Id => natI p.1) :: [])⟩
          · have f2 : ((N : Int) == most) = false := by simpa using hmo
            have f3 : decide ((W.length : Int) ≤ (N : Int)) = false := by simp; omega
            have f3n : decide (W.length ≤ N) = false := by simp; omega
            have f4 : (N : Int) < (W.length : Int) := by omega
            have f5 : ¬ (W.length : Int) ≤ (N : Int) := by omega
            have t1 : ((N : Int)).toNat = N := by omega
            have f6 : ((x.1 : Int) != (x.1 : Int)) = false := by simp
            have f7 : (!(x.2.1 == x.2.1)) = false := by simp
            have hgx : W[N] = x := by have := hat2.out; rw [List.getElem?_eq_getElem hlt] at this; exact Option.some.inj this
            obtain ⟨bW, oW, rfl, _⟩ := (h.sl A1 W.length c1).pos (by omega)
            obtain ⟨bF, oF, rfl, _⟩ := (h.sl A2 W.length c2).pos (by omega)
            have hcW : ∀ w, Sl w (some ⟨bW, oW, none⟩) W.length c1 32 ((W.map fun p : Nat × Id => p.2).flatMap idc) → Cells w bW (oW + N * 32) (u8s x.2.1) := fun w hs => by
              have := hs.elemAt idc_length (k := N) (by simpa using hlt) (by omega)
              rw [List.getElem_map, hgx] at this
              exact this
            have hcF : ∀ w, Sl w (some ⟨bF, oF, none⟩) W.length c2 1 (W.map fun p : Nat × Id => natI p.1) → w.cell? ⟨bF, oF + N, none⟩ = some (.int .i64 (x.1 : Int)) := fun w hs => hs.cellAt (by rw [List.getElem?_map, hat2.out]; rfl)
            have HcW := Lib.hid hcW
            have HcF := Lib.hid hcF
            have q1 := Lib.hid (show (u8s x.2.1).length = 32 by rw [u8s_length, x.2.2])
            clear hcW hcF hgx hmo hlt
            gi_wp2_with (first | (refine wi_reads rfl (ex_loadv h _ _ rfl _ _ rfl) ?_))
            refine wi_region_K 20 (fun w' => St _ _ w' _) (by kernel_rfl) (by kernel_rfl) h.drew ?_; replace h := h.drew
            refine wpAnyK_load 40 (i := 0) (fuel := 19) rfl rfl (by kernel_rfl) (by kernel_rfl) (by kernel_rfl) (.inr (by decide)) (by decide) (fun _ _ _ h => h) rfl (fun w h => ex_loadv h _ _ rfl _ _ rfl) ?_; simp only [Act.put, List.setIfInBounds_toArray, List.set_cons_zero, List.set_cons_succ]
            refine wpAnyK_load 41 (i := 1) (fuel := 18) rfl rfl (by kernel_rfl) (by kernel_rfl) (by kernel_rfl) (.inr (by decide)) (by decide) (fun _ _ _ h => h) rfl (fun w h => ex_loadv h _ _ rfl _ _ rfl) ?_; simp only [Act.put, List.setIfInBounds_toArray, List.set_cons_zero, List.set_cons_succ]
            refine wpAnyK_pure 42 (v := ?_) (i := 2) (fuel := 17) rfl rfl (by kernel_rfl) (by kernel_rfl) (by kernel_rfl) (by decide) (fun _ _ _ h => h) (Or.inl ⟨by rfl, fun w _ => ?_⟩) ?_; rotate_left; (go_simp; with_reducible rfl); simp only [Act.put, List.setIfInBounds_toArray, List.set_cons_zero, List.set_cons_succ]
            refine wpAnyK_pure 43 (v := (.bool false)) (i := 3) (fuel := 16) rfl rfl (by kernel_rfl) (by kernel_rfl) (by kernel_rfl) (by decide) (fun _ _ _ h => h) (Or.inl ⟨by rfl, fun w _ => (by go_simp)⟩) ?_; simp only [Act.put, List.setIfInBounds_toArray, List.set_cons_zero, List.set_cons_succ]
            refine wpAnyK_pure 44 (v := ?_) (i := 4) (fuel := 15) rfl rfl (by kernel_rfl) (by kernel_rfl) (by kernel_rfl) (by decide) (fun _ _ _ h => h) (Or.inl ⟨by rfl, fun w _ => ?_⟩) ?_; rotate_left; (go_simp; with_reducible rfl); simp only [Act.put, List.setIfInBounds_toArray, List.set_cons_zero, List.set_cons_succ]
            refine wpAnyK_load 45 (i := 5) (fuel := 14) rfl rfl (by kernel_rfl) (by kernel_rfl) (by kernel_rfl) (.inr (by decide)) (by decide) (fun _ _ _ h => h) rfl (fun w h => ex_loadv h _ _ rfl _ _ rfl) ?_; simp only [Act.put, List.setIfInBounds_toArray, List.set_cons_zero, List.set_cons_succ]
            refine wpAnyK_load 46 (i := 6) (fuel := 13) rfl rfl (by kernel_rfl) (by kernel_rfl) (by kernel_rfl) (.inr (by decide)) (by decide) (fun _ _ _ h => h) rfl (fun w h => ex_loadv h _ _ rfl _ _ rfl) ?_; simp only [Act.put, List.setIfInBounds_toArray, List.set_cons_zero, List.set_cons_succ]
            refine wpAnyK_load 47 (i := 7) (fuel := 12) rfl rfl (by kernel_rfl) (by kernel_rfl) (by kernel_rfl) (.inr (by decide)) (by decide) (fun _ _ _ h => h) rfl (fun w h => ex_loadv h _ _ rfl _ _ rfl) ?_; simp only [Act.put, List.setIfInBounds_toArray, List.set_cons_zero, List.set_cons_succ]
            refine wpAnyK_pure 48 (v := ?_) (i := 8) (fuel := 11) rfl rfl (by kernel_rfl) (by kernel_rfl) (by kernel_rfl) (by decide) (fun _ _ _ h => h) (Or.inl ⟨by rfl, fun w _ => ?_⟩) ?_; rotate_left; (go_simp; with_reducible rfl); simp only [Act.put, List.setIfInBounds_toArray, List.set_cons_zero, List.set_cons_succ]
            refine wpAnyK_load 49 (i := 9) (fuel := 10) rfl rfl (by kernel_rfl) (by kernel_rfl) (by kernel_rfl) (.inr (by decide)) (by decide) (fun _ _ _ h => h) rfl (fun w h => ex_load_at _ _ rfl bW (oW + N * 32) rfl (u8s x.2.1) q1.out (HcW.out _ (h.sl (some ⟨bW, oW, none⟩) W.length c1))) ?_; simp only [Act.put, List.setIfInBounds_toArray, List.set_cons_zero, List.set_cons_succ]
            refine wpAnyK_load 50 (i := 10) (fuel := 9) rfl rfl (by kernel_rfl) (by kernel_rfl) (by kernel_rfl) (.inr (by decide)) (by decide) (fun _ _ _ h => h) rfl (fun w h => ex_neq _ _ _ _ rfl x.2.1 x.2.1 rfl rfl x.2.2 x.2.2 false f7) ?_; simp only [Act.put, List.setIfInBounds_toArray, List.set_cons_zero, List.set_cons_succ]
            refine wpAnyK_pure 51 (v := ?_) (i := 11) (fuel := 8) rfl rfl (by kernel_rfl) (by kernel_rfl) (by kernel_rfl) (by decide) (fun _ _ _ h => h) (Or.inl ⟨by rfl, fun w _ => ?_⟩) ?_; rotate_left; (go_simp; with_reducible rfl); simp only [Act.put, List.setIfInBounds_toArray, List.set_cons_zero, List.set_cons_succ]
            refine wpAnyK_pure 52 (v := ?_) (i := 12) (fuel := 7) rfl rfl (by kernel_rfl) (by kernel_rfl) (by kernel_rfl) (by decide) (fun _ _ _ h => h) (Or.inl ⟨by rfl, fun w _ => ?_⟩) ?_; rotate_left; (go_simp; with_reducible rfl); simp only [Act.put, List.setIfInBounds_toArray, List.set_cons_zero, List.set_cons_succ]
            refine wpAnyK_pure 53 (v := ?_) (i := 13) (fuel := 6) rfl rfl (by kernel_rfl) (by kernel_rfl) (by kernel_rfl) (by decide) (fun _ _ _ h => h) (Or.inl ⟨by rfl, fun w _ => ?_⟩) ?_; rotate_left; (go_simp; with_reducible rfl); simp only [Act.put, List.setIfInBounds_toArray, List.set_cons_zero, List.set_cons_succ]
            refine wpAnyK_load 54 (i := 14) (fuel := 5) rfl rfl (by kernel_rfl) (by kernel_rfl) (by kernel_rfl) (.inr (by decide)) (by decide) (fun _ _ _ h => h) rfl (fun w h => ex_loadv h _ _ rfl _ _ rfl) ?_; simp only [Act.put, List.setIfInBounds_toArray, List.set_cons_zero, List.set_cons_succ]
            refine wpAnyK_load 55 (i := 15) (fuel := 4) rfl rfl (by kernel_rfl) (by kernel_rfl) (by kernel_rfl) (.inr (by decide)) (by decide) (fun _ _ _ h => h) rfl (fun w h => ex_loadv h _ _ rfl _ _ rfl) ?_; simp only [Act.put, List.setIfInBounds_toArray, List.set_cons_zero, List.set_cons_succ]
            refine wpAnyK_pure 56 (v := ?_) (i := 16) (fuel := 3) rfl rfl (by kernel_rfl) (by kernel_rfl) (by kernel_rfl) (by decide) (fun _ _ _ h => h) (Or.inl ⟨by rfl, fun w _ => ?_⟩) ?_; rotate_left; (go_simp; with_reducible rfl); simp only [Act.put, List.setIfInBounds_toArray, List.set_cons_zero, List.set_cons_succ]
            refine wpAnyK_load 57 (i := 17) (fuel := 2) rfl rfl (by kernel_rfl) (by kernel_rfl) (by kernel_rfl) (.inr (by decide)) (by decide) (fun _ _ _ h => h) rfl (fun w h => ex_load1_at _ _ rfl bF (oF + N) rfl (.int .i64 (x.1 : Int)) (HcF.out _ (h.sl (some ⟨bF, oF, none⟩) W.length c2))) ?_; simp only [Act.put, List.setIfInBounds_toArray, List.set_cons_zero, List.set_cons_succ]
            refine wpAnyK_pure 58 (v := ?_) (i := 18) (fuel := 1) rfl rfl (by kernel_rfl) (by kernel_rfl) (by kernel_rfl) (by decide) (fun _ _ _ h => h) (Or.inl ⟨by rfl, fun w _ => ?_⟩) ?_; rotate_left; (go_simp; with_reducible rfl); simp only [Act.put, List.setIfInBounds_toArray, List.set_cons_zero, List.set_cons_succ]
            refine wpAnyK_pure 59 (v := ?_) (i := 19) (fuel := 0) rfl rfl (by kernel_rfl) (by kernel_rfl) (by kernel_rfl) (by decide) (fun _ _ _ h => h) (Or.inl ⟨by rfl, fun w _ => ?_⟩) ?_; rotate_left; (go_simp; with_reducible rfl); simp only [Act.put, List.setIfInBounds_toArray, List.set_cons_zero, List.set_cons_succ]
            refine wpAnyK_done (by kernel_rfl) ?_
            gi_wp2_with (first
              | (refine wi_runs rfl (ex_store1i h _ _ _ rfl _ _ rfl _ _ rfl) ?_; clear h; rintro _ w ⟨rfl, h⟩; try dsimp only [Act.put])
              | (refine wi_reads rfl (ex_loadv h _ _ rfl _ _ rfl) ?_))
            have e : ((pre ++ [x]).length : Int) = (N : Int) + 1 := by rw [List.length_append, HN.out]; simp
            have h2 : St T Wo w (X :: eOp O R' Wo :: WksP g5 g6 g7 g8 g9 most (some ⟨bW, oW, none⟩) (some ⟨bF, oF, none⟩) c1 c2 W false ((pre ++ [x]).length : Int)) := by
              rw [e]
              exact h.to (L' := X :: eOp O R' Wo :: eBlk g9 3 [.int .i64 ((N : Int) + 1)] :: eBlk g7 23 [.slice (some ⟨bW, oW, none⟩) W.length c1] :: eBlk g8 26 [.slice (some ⟨bF, oF, none⟩) W.length c2] :: eBlk g5 3 [.int .i64 most] :: eBlk g6 4 [.bool false] :: eOwn 33 32 (some ⟨bW, oW, none⟩) W.length c1 ((W.map fun p : Nat × Id => p.2).flatMap idc) :: eOwn 3 1 (some ⟨bF, oF, none⟩) W.length c2 (W.map fun p : Nat × Id => natI p.1) :: [])
            exact ⟨_, rfl, h2⟩
        case done =>
          rintro D9 pre L Lf Wo rfl ⟨rfl, hp⟩ h
          have hpW := hp rfl
          rw [HW.out] at hpW
          subst hpW
          clear hp
          replace h : St (fun _ => False) w0 Wo (eDfr D9 :: eBlk gl 22 [.slice A ps.length c] :: eBlk gr 23 [.slice B roots.length d] :: eObs obc A ps.length c ps :: eSl B roots.length d 32 (roots.flatMap idc) :: eBlk g9 3 [.int .i64 (pre.length : Int)] :: eBlk g7 23 [.slice A1 pre.length c1] :: eBlk g8 26 [.slice A2 pre.length c2] :: eBlk g5 3 [.int .i64 most] :: eBlk g6 4 [.bool false] :: eOwn 33 32 A1 pre.length c1 ((pre.map fun p : Nat × Id => p.2).flatMap idc) :: eOwn 3 1 A2 pre.length c2 (pre.map fun p : Nat × Id => natI p.1) :: []) := h
          have f9 : ((pre.length : Int) == (pre.length : Int)) = true := by simp
          go_wp2_with (first
            | (go_at_call 16; refine (mark_reach_at (A := A) (B := B) (c := c) (d := d) (ps := ps) (roots := roots) h (h.obsAt obc A ps.length c) (h.sl B roots.length d) (by omega) Hls.out (by omega)).mono ?_; rw [HM.out]; clear h; rintro r w ⟨A3, c3, rfl, h⟩)
            | (go_at_call 17; refine (ref_reach (A := A) (B := B) (c := c) (d := d) (ps := ps) (roots := roots) h (by omega) Hls.out (by omega)).mono ?_; rw [HM.out]; clear h; rintro r w ⟨A4, c4, rfl, h⟩)
            | (go_at_call 15; refine (same_ids_step (h.sl A3 M.length c3) (h.sl A4 M.length c4) (by omega)).mono ?_; rw [decide_eq_true (rfl : M = M)]; rintro r w ⟨rfl, hs⟩; replace h := h.quiet hs; clear hs)
            | (refine wl_runs rfl (ex_store1b h _ _ _ rfl _ _ rfl _ rfl) ?_; clear h; rintro _ w ⟨rfl, h⟩; try dsimp only [Act.put]) | (refine wl_reads rfl (ex_loadv h _ _ rfl _ _ rfl) ?_; try simp only [Act.put, List.setIfInBounds_toArray, List.set_cons_zero, List.set_cons_succ]))
          exact ret_mark (h.dfr (D := D9)) rfl (res_cell1 rfl rfl ((h.putDfr (D := D9)).loadVar1 4 g6 0)) ⟨rfl, (h.putDfr (D := D9)).step.below⟩
        case stop =>
          rintro D9 c' pre L Lf Wo ⟨rfl, n, rfl⟩ ⟨rfl, hp⟩ h
          clear hp
          replace h : St (fun _ => False) w0 Wo (eDfr D9 :: (WkL gl gr A c ps B d roots ++ (eBlk g9 3 [.int .i64 n] :: eBlk g7 23 [.slice A1 W.length c1] :: eBlk g8 26 [.slice A2 W.length c2] :: eBlk g5 3 [.int .i64 most] :: eBlk g6 4 [.bool true] :: eOwn 33 32 A1 W.length c1 ((W.map fun p : Nat × Id => p.2).flatMap idc) :: eOwn 3 1 A2 W.length c2 (W.map fun p : Nat × Id => natI p.1) :: []))) := h
          replace h : St (fun _ => False) w0 Wo (eDfr D9 :: eBlk gl 22 [.slice A ps.length c] :: eBlk gr 23 [.slice B roots.length d] :: eObs obc A ps.length c ps :: eSl B roots.length d 32 (roots.flatMap idc) :: eBlk g9 3 [.int .i64 n] :: eBlk g7 23 [.slice A1 W.length c1] :: eBlk g8 26 [.slice A2 W.length c2] :: eBlk g5 3 [.int .i64 most] :: eBlk g6 4 [.bool true] :: eOwn 33 32 A1 W.length c1 ((W.map fun p : Nat × Id => p.2).flatMap idc) :: eOwn 3 1 A2 W.length c2 (W.map fun p : Nat × Id => natI p.1) :: []) := h
          go_wp2
          exact ret_mark (h.dfr (D := D9)) rfl (res_cell1 rfl rfl ((h.putDfr (D := D9)).loadVar1 4 g6 0)) ⟨rfl, (h.putDfr (D := D9)).step.below⟩
end Go.Proofs.Ytionnlckjjojnaa
