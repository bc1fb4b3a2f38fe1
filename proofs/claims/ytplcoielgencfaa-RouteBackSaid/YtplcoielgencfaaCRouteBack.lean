/- The law RouteBack: names that are joined are split again. -/
import Derived.Test.YtplcoielgencfaaCGoodRef
import Derived.Test.YtplcoielgencfaaCAwake10
import Derived.Test.YtplcoielgencfaaCRefSplit
import Derived.Test.YtplcoielgencfaaCJoin
import Derived.Test.YtplcoielgencfaaCB2
namespace Go.Proofs.Ytplcoielgencfaa
open Go.RowKit

theorem pcs_app : ∀ (a x y : List UInt8), (∀ c ∈ x, c ≠ 47) → pcs a (x ++ y) = pcs (a ++ x) y
  | a, [], y, _ => by simp
  | a, c :: x, y, h => by
    rw [List.cons_append, pcs, if_neg (h c (by simp)), pcs_app (a ++ [c]) x y (fun d hd => h d (by simp [hd]))]
    simp
theorem pcs_join : ∀ l : List (List UInt8), l ≠ [] → (∀ x ∈ l, ∀ c ∈ x, c ≠ 47) → pcs [] (joinM l) = l
  | [], h, _ => absurd rfl h
  | [x], _, h => by
    have := pcs_app [] x [] (h x (by simp))
    rw [List.append_nil, List.nil_append] at this
    rw [joinM, this, pcs]
  | x :: y :: l, _, h => by
    rw [joinM, pcs_app [] x _ (h x (by simp)), pcs, if_pos rfl, pcs_join (y :: l) (by simp) (fun z hz => h z (by simp at hz ⊢; exact .inr hz))]
    rfl
theorem split_join {l : List (List UInt8)} (hl : l.length ≤ 16) (hg : l.all goodM = true) : splitM (joinM l) = (l, 0) := by
  by_cases h0 : l = []
  · subst h0
    rfl
  · have hg' := List.all_eq_true.1 hg
    have hp := pcs_join l h0 (fun x hx c hc => (((goodM_iff x).1 (hg' x hx)).2.2.2.2 c hc).2)
    have hne : joinM l ≠ [] := by
      intro e
      rw [e] at hp
      rw [pcs] at hp
      have h1 := ((goodM_iff []).1 (hg' [] (by rw [← hp]; simp))).1
      simp at h1
    rw [splitM, if_neg hne, hp, if_neg (by omega), if_pos hg]

set_option maxRecDepth 100000 in
set_option maxHeartbeats 1000000 in
theorem walk_RouteBack {w : World} {A : Option Addr} {n c : Nat} {l : List (List UInt8)} (hl : Sl w A n c 1 (strs l)) : Calls Try.prog 5 #[.slice A n c] w fun e w' => e = .returned (.bool true) ∧ Below w.heap.size w w' := by
  by_cases hn : 30 < n
  · go_enter Try.func5, Try.ntmps5
    go_wp2_with (go_at_call 7; refine (route_awake _).mono ?_; rintro e w1 ⟨rfl, hS1⟩)
    go_ret
    exact ⟨rfl, hS1.below⟩
  have en := hl.n_strs
  have En := Lib.hid en
  clear en
  go_enter Try.func5, Try.ntmps5
  go_wp2_with (go_at_call 7; refine (route_awake _).mono ?_; rintro e w1 ⟨rfl, hS1⟩)
  go_loopw [3, 19] (fun v i wr => ∃ (k : Nat) (g : Bool), k ≤ n ∧ i = .int .i64 k ∧ v = .bool g ∧ Hid (g = (decide (n ≤ 16) && (l.take k).all goodM)) ∧ (∀ x ∈ l.take k, x.length ≤ 200) ∧ Step (fun _ => False) w wr) (fun _ i _ => n - (intOf i).toNat)
  case atStart => exact ⟨0, decide ((n : Int) ≤ 16), Nat.zero_le _, rfl, rfl, Lib.hid (by simp; omega), by simp, hS1⟩
  case round =>
    obtain ⟨k, g, hk, rfl, rfl, Hg, hb, hS⟩ := hrel
    have hl' := En.out
    by_cases hlt : k < n
    · have hkl : k < l.length := by omega
      clear hl'
      obtain ⟨b, off, rfl, u, hu, hcell⟩ := (hl.keep hS).at_ (k := k) hlt
      rw [strs_get _ hkl, Option.some.injEq] at hu
      subst hu
      rw [strv] at hcell
      have h1 := str_size l[k]
      by_cases h2 : 200 < l[k].length
      · go_wp2
        go_ret
        exact ⟨rfl, hS.below⟩
      · have hb' : ∀ x ∈ l.take (k + 1), x.length ≤ 200 := take_all (p := fun x => x.length ≤ 200) hb hkl (by omega)
        have hall : (l.take (k + 1)).all goodM = ((l.take k).all goodM && goodM l[k]) := by
          rw [List.take_succ_eq_append_getElem hkl, List.all_append]
          simp
        cases g with
        | true =>
          go_wp2_with (go_at_call 9; refine (good_ref (by omega)).mono ?_; rintro e w3 ⟨rfl, rfl⟩)
          exact ⟨⟨k + 1, goodM l[k], by omega, by go_num, rfl, Lib.hid (by rw [hall, ← Bool.and_assoc, ← Hg.out]; simp), hb', hS⟩, by simp only [intOf]; omega⟩
        | false =>
          go_wp2_with (go_at_call 9; refine (good_ref (by omega)).mono ?_; rintro e w3 ⟨rfl, rfl⟩)
          exact ⟨⟨k + 1, false, by omega, by go_num, rfl, Lib.hid (by rw [hall, ← Bool.and_assoc, ← Hg.out]; simp), hb', hS⟩, by simp only [intOf]; omega⟩
    · rw [List.take_of_length_le (by omega)] at hb
      have hgo : g = (decide (n ≤ 16) && l.all goodM) := by
        have := Hg.out
        rwa [List.take_of_length_le (by omega)] at this
      have hjl : (joinM l).length ≤ 100000 := Nat.le_trans (joinM_bound hb) (Nat.le_trans (Nat.mul_le_mul (show l.length ≤ 30 by omega) (Nat.le_refl 201)) (by decide))
      have hbt : ∀ x ∈ l, x.length ≤ 1000 := fun x hx => Nat.le_trans (hb x hx) (by omega)
      have hn' : n ≤ 100 := by omega
      cases g with
      | false =>
        clear hgo hl' hb Hg
        have hst := str_toList (joinM l)
        go_wp2_with (first
          | (go_at_call 16; refine (join_code (hl.keep hS) hn' hbt).mono ?_; rintro e w2 ⟨rfl, hS2⟩)
          | (go_at_call 12; refine (split_code (by omega)).mono ?_; rintro e w3 ⟨A3, n3, c3, rfl, hsA, hS3, hA3⟩)
          | (go_at_call 17; refine (join_ref (((hl.keep hS).keep hS2).keep hS3) hn' hbt).mono ?_; rintro e w4 ⟨rfl, rfl⟩))
        go_ret
        exact ⟨rfl, ((hS.tr hS2).tr hS3).below⟩
      | true =>
        have hg2 := hgo.symm
        rw [Bool.and_eq_true, decide_eq_true_eq] at hg2
        have hsj := split_join (by omega) hg2.2
        have Hsj := Lib.hid hsj
        clear hgo hl' hb Hg hsj hg2
        have hst := str_toList (joinM l)
        go_wp2_with (first
          | (go_at_call 16; refine (join_code (hl.keep hS) hn' hbt).mono ?_; rintro e w2 ⟨rfl, hS2⟩)
          | (go_at_call 12; refine (split_code (by omega)).mono ?_; rintro e w3 ⟨A3, n3, c3, rfl, hsA, hS3, hA3⟩; rw [Hsj.out] at hsA ⊢; replace hsA : Sl w3 A3 n3 c3 1 (strs l) := hsA; have hn3 : n3 = l.length := hsA.n_strs; have hn3' : n3 ≤ 1000000000 := (by (have := En.out; omega)); clear hn3)
          | (go_at_call 17; refine (join_ref (((hl.keep hS).keep hS2).keep hS3) hn' hbt).mono ?_; rintro e w4 ⟨rfl, rfl⟩)
          | (go_at_call 14; refine (same_names (l := l) (k := l) hsA (((hl.keep hS).keep hS2).keep hS3) hn3').mono ?_; rintro e w5 ⟨rfl, q, rfl⟩; rw [decide_eq_true rfl]))
        go_ret
        exact ⟨rfl, (((hS.tr hS2).tr hS3).drewN q).below⟩
end Go.Proofs.Ytplcoielgencfaa
