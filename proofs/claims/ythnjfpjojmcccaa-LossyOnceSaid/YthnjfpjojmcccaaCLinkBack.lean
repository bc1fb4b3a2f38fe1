/- What waits, told from its end. -/
import Derived.Test.YthnjfpjojmcccaaCLink
import Derived.WalkMore
import Derived.Laws.Cover3
namespace Go.Proofs.Ythnjfpjojmcccaa
open Go.RowKit Go.Shelf
set_option linter.unusedVariables false
set_option linter.unusedSimpArgs false

/-- The places and what stands there, from the end. -/
def backL (l : List Mg) : List (Nat × Mg) := ((List.range l.length).zip l).reverse
theorem backL_length (l : List Mg) : (backL l).length = l.length := by simp [backL]
theorem backL_get (l : List Mg) (j : Nat) (hj : j < l.length) : (backL l)[l.length - (j + 1)]'(by rw [backL_length]; omega) = (j, l[j]) := by
  unfold backL
  rw [List.getElem_reverse]
  simp only [List.getElem_zip, List.getElem_range, List.length_zip, List.length_range, Nat.min_self, Prod.mk.injEq]
  have : l.length - 1 - (l.length - (j + 1)) = j := by omega
  exact ⟨this, by congr 1⟩
theorem backL_take (l : List Mg) (j : Nat) (hj : j < l.length) : (backL l).take (l.length - j) = (backL l).take (l.length - (j + 1)) ++ [(j, l[j])] := by
  have h := backL_get l j hj
  rw [show l.length - j = l.length - (j + 1) + 1 by omega, List.take_succ_eq_append_getElem (by rw [backL_length]; omega), h]
abbrev BL (gb : Nat) (A : Option Addr) (c : Nat) (l : List Mg) (F : List Ent) : List Ent := eBlk gb 84 [.slice A l.length c] :: eOwn 107 2 A l.length c (l.flatMap mgc) :: F
theorem back_make {S : Nat → Prop} {w0 w : World} {L : List Ent} {A : Option Addr} {n c : Nat} (h : St S w0 w L) :
    Calls Try.prog 46 #[.slice A n c] w fun e w' => ∃ gb, e = .returned (.func (.func 56) #[] #[.pointer (some ⟨gb, 0, none⟩)]) ∧ St S w0 w' (eBlk gb 84 [.slice A n c] :: L) := by
  go_enter Try.func46, Try.ntmps46
  go_wp2_with (first
    | (refine wl_runs rfl (ex_box1s h 84 _ rfl A n c rfl) ?_; clear h; rintro _ w ⟨gb, rfl, h⟩))
  go_ret
  exact ⟨gb, rfl, h⟩
set_option maxRecDepth 100000 in
set_option maxHeartbeats 1000000 in
theorem back_iters {gb : Nat} {A : Option Addr} {c : Nat} {l : List Mg} (hl : l.length ≤ 1000000) :
    Iters Try.prog 56 #[.pointer (some ⟨gb, 0, none⟩)] (fun p : Nat × Mg => #[.int .i64 (p.1 : Int), .agg (mgc p.2).toArray]) (fun pre x _ _ _ => pre ++ [x] <+: backL l)
      (fun pre stopped Lf => Lf = BL gb A c l [] ∧ (stopped = false → pre = backL l)) (BL gb A c l []) := by
  intro n l' J Jx W hW hJ hJx hY h0
  refine callsIn_wide.2 ?_
  go_enter Try.func56, Try.ntmps56
  have h := hW
  go_wp2_with (first | (refine wl_reads rfl (ex_loadv h _ _ rfl _ _ rfl) ?_))
  clear h
  go_loopw [3] (fun x wr => ∃ (k : Nat) (v : Int), k ≤ l.length ∧ Hid (v = (k : Int) - 1) ∧ x = .int .i64 v ∧ St (owns (BL gb A c l [])) wr wr (BL gb A c l []) ∧ J ((backL l).take (l.length - k)) (owns (BL gb A c l [])) (reads (BL gb A c l [])) wr) (fun x _ => (intOf x + 1).toNat)
  case atStart => exact ⟨l.length, _, Nat.le_refl _, Lib.hid rfl, rfl, hW, by rw [Nat.sub_self, List.take_zero]; exact h0⟩
  case round =>
    clear h0 hW
    obtain ⟨k, v, hk, Hv, rfl, h, hj⟩ := hrel
    by_cases hk0 : 0 < k
    · obtain ⟨j, rfl⟩ : ∃ j, k = j + 1 := ⟨k - 1, by omega⟩
      have hv : v = (j : Int) := by have := Hv.out; omega
      subst hv
      have f1 : (0 : Int) ≤ (j : Int) := by omega
      have f2 : (j : Int) < (l.length : Int) := by omega
      have f3 : j < l.length := by omega
      have t0 : ((j : Int)).toNat = j := by omega
      obtain ⟨x, hx⟩ : ∃ x, l[j] = x := ⟨_, rfl⟩
      have hpre : (backL l).take (l.length - j) = (backL l).take (l.length - (j + 1)) ++ [(j, x)] := by rw [← hx]; exact backL_take l j f3
      have Hpre := Lib.hid hpre
      obtain ⟨b, off, rfl, _⟩ := (h.sl A l.length c).pos (by omega)
      have hcs : Cells wr b (off + j * 2) (mgc x) := by rw [← hx]; exact (h.sl (some ⟨b, off, none⟩) l.length c).elemAt mgc_length f3 (by omega)
      clear hpre hx
      go_upto_region 3 with (fail)
      refine (wpIn_wide (n := n)).1 ?_
      obtain ⟨fn, tmps, assign, body, hy, hR⟩ := hY _ (j, x) _ _ _ hj (by rw [← Hpre.out]; exact List.take_prefix _ _)
      simp only at hy
      gi_wp2_with (first
        | (refine wi_reads rfl (ex_load_at _ _ rfl b (off + j * 2) rfl (mgc x) rfl hcs) ?_)
        | (refine wi_reads rfl (ex_loadv h _ _ rfl _ _ rfl) ?_))
      refine ⟨fun h => (by cases h), hR.mono ?_⟩
      rintro e W3 ⟨hs3, ⟨rfl, hJ3⟩ | ⟨rfl, hJx3⟩⟩
      · replace h := h.over hs3
        gi_wp2
        go_wp2
        refine ⟨⟨j, (j : Int) - 1, by omega, Lib.hid rfl, rfl, h, by rw [Hpre.out]; exact hJ3⟩, ?_⟩
        simp only [intOf]
        omega
      · replace h := h.over hs3
        gi_wp2
        go_wp2
        exact bodyPost_ret (results_none rfl _ _ _) rfl (IterEnd.stops (pre := _ ++ [(j, x)]) ⟨rfl, fun e => by cases e⟩ h hJx3)
    · have hkz : k = 0 := by omega
      subst hkz
      have hv : v = -1 := Hv.out
      subst hv
      go_wp2
      go_end0
      exact IterEnd.ends (pre := backL l) ⟨rfl, fun _ => rfl⟩ h (by rw [Nat.sub_zero, List.take_of_length_le (by rw [backL_length]; exact Nat.le_refl _)] at hj; exact hj)
end Go.Proofs.Ythnjfpjojmcccaa
