/- The law MarkSweeps: what is kept, and what goes. -/
import Derived.Test.YtionnlckjjojnaaCMarkAwake
namespace Go.Proofs.Ytionnlckjjojnaa
open Go.RowKit Go.Maps
set_option linter.unusedVariables false
set_option linter.unusedSimpArgs false

instance HasObs.ownLnk (f : ObAt → List Value) (e : TypeId) (A : Option Addr) (n c : Nat) (ps : List ObAt) (L : List Ent) : HasObs f (eOwn e 34 A n c (ps.flatMap f) :: eLnk ps :: L) A n c ps :=
  ⟨fun w h => ⟨Tl.sl (h (eOwn e 34 A n c (ps.flatMap f)) (by simp)), h (eLnk ps) (by simp)⟩⟩
theorem HasObs.sub {f : ObAt → List Value} {e : TypeId} {A B : Option Addr} {n c m d : Nat} {ps kps : List ObAt} {L : List Ent} (h : ∀ p ∈ kps, p ∈ ps) [k : HasObs f L B m d ps] : HasObs f (eOwn e 34 A n c (kps.flatMap f) :: L) A n c kps :=
  ⟨fun w hw => ⟨Tl.sl (hw (eOwn e 34 A n c (kps.flatMap f)) (by simp)), fun p hp => (k.rows w (fun x hx => hw x (List.mem_cons_of_mem _ hx))).2 p (h p hp)⟩⟩
theorem kept_len {kps ps : List ObAt} {roots : List Id} (h : obsM kps = keptM (obsM ps) roots) : kps.length ≤ ps.length := by
  have e := congrArg List.length h
  have e2 : (obsM kps).length = kps.length := by simp
  have e3 : (keptM (obsM ps) roots).length ≤ (obsM ps).length := List.length_filter_le _ _
  have e4 : (obsM ps).length = ps.length := by simp
  omega
theorem kept_le {kps ps : List ObAt} {roots : List Id} (h : obsM kps = keptM (obsM ps) roots) {M : Nat} (hls : ∀ p ∈ ps, p.links.length ≤ M) : ∀ p ∈ kps, p.links.length ≤ M := fun p hp => by
  have h7 : obOf p ∈ obsM kps := List.mem_map_of_mem hp
  rw [h] at h7
  have h8 : obOf p ∈ obsM ps := (List.mem_filter.1 h7).1
  obtain ⟨q, hq, e⟩ := List.mem_map.1 h8
  have h9 := hls q hq
  have e2 : q.links = p.links := congrArg Ob.links e
  rw [← e2]
  exact h9
set_option maxRecDepth 100000 in
set_option maxHeartbeats 1000000 in
theorem walk_MarkSweeps {w0 : World} {A B : Option Addr} {n c m d : Nat} {ps : List ObAt} {roots : List Id} (hA : Sl w0 A n c 34 (ps.flatMap obc)) (hps : LinksIs w0 ps) (hB : Sl w0 B m d 32 (roots.flatMap idc)) :
    Calls Try.prog 4 #[.slice A n c, .slice B m d] w0 fun e w' => e = .returned (.bool true) ∧ Below w0.heap.size w0 w' := by
  have hn := hA.n_flat obc_length (by omega)
  have hm := hB.n_flat idc_length (by omega)
  subst hn hm
  have h : St (fun _ => False) w0 w0 (eObs obc A ps.length c ps :: eSl B roots.length d 32 (roots.flatMap idc) :: []) := ((St.obs0 hA hps).reading hB (by omega) (fun k hk => ⟨hB.ft_lt (by omega) hk, id⟩)).to
  clear hA hps hB
  cases hf : fewM ps with
  | false =>
    have Hf := Lib.hid hf
    clear hf
    go_enter Try.func4, Try.ntmps4
    go_wp2_with (first
      | (go_at_call 11; refine (mark_awake h).mono ?_; clear h; rintro r w ⟨rfl, h⟩)
      | (go_at_call 12; refine (few_obs (A := A) (c := c) (ps := ps) h).mono ?_; rw [Hf.out]; clear h; rintro r w ⟨rfl, h⟩))
    go_ret
    exact ⟨rfl, h.step.below⟩
  | true =>
    obtain ⟨hl, hls⟩ := few_lens hf
    have Hf := Lib.hid hf
    have Hls := Lib.hid (fun p hp => by have := hls p hp; omega : ∀ p ∈ ps, p.links.length ≤ 1000000)
    clear hf hls
    by_cases hr : 20 < roots.length
    · go_enter Try.func4, Try.ntmps4
      go_wp2_with (first
        | (go_at_call 11; refine (mark_awake h).mono ?_; clear h; rintro r w ⟨rfl, h⟩)
        | (go_at_call 12; refine (few_obs (A := A) (c := c) (ps := ps) h).mono ?_; rw [Hf.out]; clear h; rintro r w ⟨rfl, h⟩))
      go_ret
      exact ⟨rfl, h.step.below⟩
    · have hlg := linksM_length (goneM (obsM ps) roots)
      have hgl : (goneM (obsM ps) roots).length ≤ ps.length := by
        rw [goneM, List.length_map]
        exact Nat.le_trans (List.length_filter_le _ _) (by simp)
      obtain ⟨G, hG⟩ : ∃ G, linksM (goneM (obsM ps) roots) = G := ⟨_, rfl⟩
      have HG := Lib.hid hG
      rw [hG] at hlg
      have hGl : G.length ≤ 30 := by omega
      have hkl : (keptM (obsM ps) roots).length ≤ ps.length := Nat.le_trans (List.length_filter_le _ _) (by simp)
      have Hkl := Lib.hid hkl
      clear hG hlg hgl hkl
      go_enter Try.func4, Try.ntmps4
      go_wp2_with (first
        | (go_at_call 11; refine (mark_awake h).mono ?_; clear h; rintro r w ⟨rfl, h⟩)
        | (go_at_call 12; refine (few_obs (A := A) (c := c) (ps := ps) h).mono ?_; rw [Hf.out]; clear h; rintro r w ⟨rfl, h⟩)
        | (go_at_call 18; refine (mark_sweep (A := A) (B := B) (c := c) (d := d) (ps := ps) (roots := roots) h (by omega) Hls.out (by omega)).mono ?_; rw [HG.out]; clear h; rintro r w ⟨A1, c1, A2, c2, k1, rfl, hk1, h⟩; have Hk1 := Lib.hid hk1; clear hk1)
        | (go_at_call 19; refine (ref_sweep (A := A) (B := B) (c := c) (d := d) (ps := ps) (roots := roots) h (by omega) Hls.out (by omega)).mono ?_; rw [HG.out]; clear h; rintro r w ⟨A3, c3, A4, c4, k2, rfl, hk2, hin, h⟩; have Hk2 := Lib.hid hk2; have Hin := Lib.hid hin; clear hk2 hin)
        | (go_at_call 20; refine (same_objects (A := A1) (B := A3) (c := c1) (d := c3) (xs := k1) (ys := k2) (ka := HasObs.miss _ _ _ _ _ _ _ (h := HasObs.miss _ _ _ _ _ _ _ (h := HasObs.ownLnk _ _ _ _ _ _ _))) (kb := HasObs.sub (B := A) (m := ps.length) (d := c) Hin.out) h (Nat.le_trans (kept_len Hk1.out) (by omega)) (kept_le Hk1.out Hls.out)).mono ?_; rw [show decide (obsM k1 = obsM k2) = true from decide_eq_true (Hk1.out.trans Hk2.out.symm)]; clear h; rintro r w ⟨rfl, h⟩)
        | (go_at_call 15; refine (same_ids_step (h.sl A2 G.length c2) (h.sl A4 G.length c4) (by omega)).mono ?_; rw [decide_eq_true (rfl : G = G)]; rintro r w ⟨rfl, hs⟩; replace h := h.quiet hs; clear hs))
      go_ret
      exact ⟨rfl, h.step.below⟩
end Go.Proofs.Ytionnlckjjojnaa
