/- The law MarkOrders: objects such that each stands behind what it links to, or that there is no such order. -/
import Derived.Test.YtionnlckjjojnaaCMarkOrdRef
namespace Go.Proofs.Ytionnlckjjojnaa
open Go.RowKit Go.Maps
set_option linter.unusedVariables false
set_option linter.unusedSimpArgs false

theorem ordR_len {ps ops : List ObAt} {b : Bool} (h : (obsM ops, b) = ordR (obsM ps)) (hl : ∀ out, ordM (obsM ps) = some out → (pickM (obsM ps) out).length ≤ ps.length) : ops.length ≤ ps.length := by
  have e : obsM ops = (ordR (obsM ps)).1 := by rw [← h]
  have e2 : (obsM ops).length = ops.length := by simp
  rw [← e2, e, ordR]
  cases ho : ordM (obsM ps) with
  | none => simp
  | some out => exact hl out ho
theorem ordF_len {os : List Ob} : ∀ {k : Nat} {out : List Nat} {r : List Nat}, OInv os k out → ordF os k out = some r → r.length ≤ os.length ∧ ∀ i ∈ r, i < os.length
  | 0, out, r, h, e => by
    obtain rfl : out = r := Option.some.inj e
    have := h.sum
    exact ⟨by omega, h.lt⟩
  | k + 1, out, r, h, e => by
    rw [ordF] at e
    cases hn : nextM os out with
    | none => rw [hn] at e; cases e
    | some i =>
      rw [hn] at e
      exact ordF_len (h.next hn) e
theorem ord_len (ps : List ObAt) : ∀ out, ordM (obsM ps) = some out → (pickM (obsM ps) out).length ≤ ps.length := fun out h => by
  obtain ⟨h1, h2⟩ := ordF_len (OInv.init (obsM ps)) h
  rw [pick_len h2]
  simpa using h1
theorem ord_links {ps ops : List ObAt} {b : Bool} {M : Nat} (h : (obsM ops, b) = ordR (obsM ps)) (hls : ∀ p ∈ ps, p.links.length ≤ M) : ∀ p ∈ ops, p.links.length ≤ M := fun p hp => by
  have e : obsM ops = (ordR (obsM ps)).1 := by rw [← h]
  have h7 : obOf p ∈ obsM ops := List.mem_map_of_mem hp
  rw [e, ordR] at h7
  cases ho : ordM (obsM ps) with
  | none => rw [ho] at h7; cases h7
  | some out =>
    rw [ho] at h7
    obtain ⟨j, _, hj⟩ := List.mem_filterMap.1 h7
    have h8 : obOf p ∈ obsM ps := List.mem_of_getElem? hj
    obtain ⟨q, hq, e⟩ := List.mem_map.1 h8
    have h9 := hls q hq
    have e2 : q.links = p.links := congrArg Ob.links e
    rw [← e2]
    exact h9
set_option maxRecDepth 100000 in
set_option maxHeartbeats 1000000 in
theorem walk_MarkOrders {w0 : World} {A : Option Addr} {n c : Nat} {ps : List ObAt} (hA : Sl w0 A n c 34 (ps.flatMap obc)) (hps : LinksIs w0 ps) :
    Calls Try.prog 6 #[.slice A n c] w0 fun e w' => e = .returned (.bool true) ∧ Below w0.heap.size w0 w' := by
  have hn := hA.n_flat obc_length (by omega)
  subst hn
  have h : St (fun _ => False) w0 w0 (eObs obc A ps.length c ps :: []) := St.obs0 hA hps
  clear hA hps
  cases hf : fewM ps with
  | false =>
    have Hf := Lib.hid hf
    clear hf
    go_enter Try.func6, Try.ntmps6
    go_wp2_with (first
      | (go_at_call 11; refine (mark_awake h).mono ?_; clear h; rintro r w ⟨rfl, h⟩)
      | (go_at_call 12; refine (few_obs (A := A) (c := c) (ps := ps) h).mono ?_; rw [Hf.out]; clear h; rintro r w ⟨rfl, h⟩))
    go_ret
    exact ⟨rfl, h.step.below⟩
  | true =>
    obtain ⟨hl, hls⟩ := few_lens hf
    have Hf := Lib.hid hf
    have Hls := Lib.hid (fun p hp => by have := hls p hp; omega : ∀ p ∈ ps, p.links.length ≤ 1000000)
    have hl6 : ps.length ≤ 1000000 := by omega
    clear hf hls
    go_enter Try.func6, Try.ntmps6
    go_wp2_with (first
      | (go_at_call 11; refine (mark_awake h).mono ?_; clear h; rintro r w ⟨rfl, h⟩)
      | (go_at_call 12; refine (few_obs (A := A) (c := c) (ps := ps) h).mono ?_; rw [Hf.out]; clear h; rintro r w ⟨rfl, h⟩)
      | (go_at_call 21; refine (mark_order (A := A) (c := c) (ps := ps) h hl6 Hls).mono ?_; clear h; rintro r w ⟨A1, c1, k1, b1, rfl, hk1, h⟩; have Hk1 := Lib.hid hk1; clear hk1)
      | (go_at_call 22; refine (order_ref (A := A) (c := c) (ps := ps) h hl6 Hls).mono ?_; clear h; rintro r w ⟨A3, c3, k2, b2, rfl, hk2, hin, h⟩; have Hk2 := Lib.hid hk2; have Hin := Lib.hid hin; have hbb : (b1 == b2) = true := (by rw [show b1 = b2 from congrArg Prod.snd (Hk1.out.trans Hk2.out.symm)]; simp); clear hk2 hin)
      | (go_at_call 20; refine (same_objects (A := A1) (B := A3) (c := c1) (d := c3) (xs := k1) (ys := k2) (ka := HasObs.miss _ _ _ _ _ _ _ (h := HasObs.ownLnk _ _ _ _ _ _ _)) (kb := HasObs.sub (B := A) (m := ps.length) (d := c) Hin.out) h (Nat.le_trans (ordR_len Hk1.out (ord_len ps)) hl6) (ord_links Hk1.out Hls.out)).mono ?_; rw [show decide (obsM k1 = obsM k2) = true from decide_eq_true (congrArg Prod.fst (Hk1.out.trans Hk2.out.symm))]; clear h; rintro r w ⟨rfl, h⟩))
    go_ret
    exact ⟨rfl, h.step.below⟩
end Go.Proofs.Ytionnlckjjojnaa
