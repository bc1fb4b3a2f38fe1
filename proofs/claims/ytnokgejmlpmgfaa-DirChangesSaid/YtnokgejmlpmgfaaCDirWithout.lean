/- Entries taken out: the code. -/
import Derived.Test.YtnokgejmlpmgfaaCDirWithM
import Derived.Test.YtnokgejmlpmgfaaCB1
namespace Go.Proofs.Ytnokgejmlpmgfaa
open Go.RowKit
set_option linter.unusedVariables false
set_option linter.unusedSimpArgs false

set_option maxRecDepth 100000 in
set_option maxHeartbeats 2000000 in
theorem without_code {S : Nat → Prop} {w0 w : World} {L : List Ent} {A : Option Addr} {c : Nat} {l : List En} {n : List UInt8} (h : St S w0 w L) [ka : HasSl L A l.length c 100 (l.flatMap enK)] (hl : l.length ≤ 1000) :
    Calls Try.prog 41 #[.slice A l.length c, .string (str n)] w fun e w' => ∃ A' c', e = .returned (.slice A' (withoutM l n).length c') ∧ St S w0 w' (eOwn 87 100 A' (withoutM l n).length c' ((withoutM l n).flatMap enK) :: L) := by
  go_enter Try.func41, Try.ntmps41
  go_wp2
  replace h := h.nilRow 87 100
  go_loopw [5, 10] (fun v iv wr => ∃ (k : Nat) (A1 : Option Addr) (c1 : Nat) (acc : List En), v = .slice A1 acc.length c1 ∧ iv = .int .i64 (k : Int) ∧ k ≤ l.length ∧ acc.length ≤ k ∧ Hid (withoutM (l.take k) n = acc) ∧ St S w0 wr (eOwn 87 100 A1 acc.length c1 (acc.flatMap enK) :: L)) (fun _ iv _ => l.length - (intOf iv).toNat)
  case atStart => exact ⟨0, none, 0, [], rfl, rfl, Nat.zero_le _, Nat.le_refl _, Lib.hid (by simp [withoutM]), h⟩
  case round =>
    clear h
    obtain ⟨k, A1, c1, acc, rfl, rfl, hk, hak, Hacc, h⟩ := hrel
    by_cases hkl : k < l.length
    · have f2 : (k : Int) < (l.length : Int) := by omega
      have t1 : ((k : Int)).toNat = k := by omega
      obtain ⟨x, hx⟩ : ∃ x, l[k] = x := ⟨_, rfl⟩
      obtain ⟨b, off, rfl, _⟩ := (h.sl A l.length c).pos (by omega)
      have hcs : ∀ w, Sl w (some ⟨b, off, none⟩) l.length c 100 (l.flatMap enK) → Cells w b (off + k * 100) (enK x) := fun w hs => by rw [← hx]; exact hs.elemAt enK_length hkl (by omega)
      have Hcs := Lib.hid hcs
      have hnx := withoutM_next (n := n) hkl hx
      rw [Hacc.out] at hnx
      obtain ⟨B, hB⟩ : ∃ B, (!(x.name == n)) = B := ⟨_, rfl⟩
      rw [hB] at hnx
      have hst : (!((str x.name).toList == (str n).toList)) = B := by rw [str_toList, str_toList]; exact hB
      have hone := (enK_row x).one
      have Hlen := Lib.hid (show (acc ++ [x]).length = acc.length + 1 by simp)
      have Hflat := Lib.hid (show (acc ++ [x]).flatMap enK = acc.flatMap enK ++ enK x by simp)
      obtain ⟨xb, xn, xk, xi, xy, xr, xe⟩ := x
      simp only at hst
      have r1 : Row (u8s xb.1) 32 := Row.u32 xb
      have r2 : Row (u8s xi.1) 32 := Row.u32 xi
      have r3 : Row (u8s xy.1) 32 := Row.u32 xy
      clear hcs hx hB
      cases B with
      | true =>
        have Hnx := Lib.hid (by rw [if_pos rfl] at hnx; exact hnx : withoutM (l.take (k + 1)) n = acc ++ [(⟨xb, xn, xk, xi, xy, xr, xe⟩ : En)])
        clear hnx
        go_wp2_with (first | (refine wl_at 13 rfl ?_; refine wl_reads rfl (ex_load_at _ _ rfl b (off + k * 100) rfl (enK ⟨xb, xn, xk, xi, xy, xr, xe⟩) (enK_length _) (Hcs.out _ (h.sl (some ⟨b, off, none⟩) l.length c))) ?_) | (refine wl_at 7 rfl ?_; refine wl_runs rfl (ex_alloc h 87 rfl) ?_; clear h; rintro _ w ⟨g, rfl, h⟩) | (refine wl_none rfl ?_; refine wl_runs rfl (ex_store h _ _ _ rfl _ _ rfl (enK ⟨xb, xn, xk, xi, xy, xr, xe⟩) rfl) ?_; clear h; rintro _ w ⟨rfl, h⟩; try dsimp only [Act.put]) | (refine wl_at 15 rfl ?_; refine wl_reads rfl (ex_loadv h _ _ rfl _ _ rfl) ?_) | (refine wl_at 19 rfl ?_; refine wl_reads rfl (ex_loadv h _ _ rfl _ _ rfl) ?_) | (refine wl_at 20 rfl ?_; refine wl_runs rfl (ex_slice1 h _ _ rfl (enK ⟨xb, xn, xk, xi, xy, xr, xe⟩) rfl) ?_; clear h; rintro _ w ⟨gq, rfl, h⟩) | (refine wl_at 21 rfl ?_; refine wl_runs rfl (ex_append h _ _ _ rfl A1 rfl (some ⟨gq, 0, none⟩) 1 1 rfl (h.slBox gq) hone (by simp [maxLen]; omega) (by omega)) ?_; clear h; rintro _ w ⟨A2, c2, rfl, h⟩))
        refine ⟨⟨k + 1, A2, c2, _, by rw [Hlen.out], by push_cast; rfl, by omega, by rw [Hlen.out]; omega, Hnx, by rw [Hflat.out, Hlen.out]; exact h.to⟩, ?_⟩
        simp only [intOf]
        omega
      | false =>
        have Hnx := Lib.hid (by rw [if_neg (by simp)] at hnx; exact hnx : withoutM (l.take (k + 1)) n = acc)
        clear hnx
        go_wp2_with (first | (refine wl_at 13 rfl ?_; refine wl_reads rfl (ex_load_at _ _ rfl b (off + k * 100) rfl (enK ⟨xb, xn, xk, xi, xy, xr, xe⟩) (enK_length _) (Hcs.out _ (h.sl (some ⟨b, off, none⟩) l.length c))) ?_) | (refine wl_at 7 rfl ?_; refine wl_runs rfl (ex_alloc h 87 rfl) ?_; clear h; rintro _ w ⟨g, rfl, h⟩) | (refine wl_none rfl ?_; refine wl_runs rfl (ex_store h _ _ _ rfl _ _ rfl (enK ⟨xb, xn, xk, xi, xy, xr, xe⟩) rfl) ?_; clear h; rintro _ w ⟨rfl, h⟩; try dsimp only [Act.put]) | (refine wl_at 15 rfl ?_; refine wl_reads rfl (ex_loadv h _ _ rfl _ _ rfl) ?_) | (refine wl_at 19 rfl ?_; refine wl_reads rfl (ex_loadv h _ _ rfl _ _ rfl) ?_) | (refine wl_at 20 rfl ?_; refine wl_runs rfl (ex_slice1 h _ _ rfl (enK ⟨xb, xn, xk, xi, xy, xr, xe⟩) rfl) ?_; clear h; rintro _ w ⟨gq, rfl, h⟩) | (refine wl_at 21 rfl ?_; refine wl_runs rfl (ex_append h _ _ _ rfl A1 rfl (some ⟨gq, 0, none⟩) 1 1 rfl (h.slBox gq) hone (by simp [maxLen]; omega) (by omega)) ?_; clear h; rintro _ w ⟨A2, c2, rfl, h⟩))
        refine ⟨⟨k + 1, A1, c1, acc, rfl, by push_cast; rfl, by omega, by omega, Hnx, h.to⟩, ?_⟩
        simp only [intOf]
        omega
    · obtain rfl : k = l.length := by omega
      have hkk : ¬ ((l.length : Int) < (l.length : Int)) := by omega
      have hfin := Hacc.out
      rw [List.take_length] at hfin
      have Hfin := Lib.hid hfin
      clear hkl hfin
      go_wp2
      go_ret
      rw [Hfin.out]
      exact ⟨A1, c1, rfl, h⟩
end Go.Proofs.Ytnokgejmlpmgfaa
