/- What entries link to: the code and the reference. -/
import Derived.Test.YtnokgejmlpmgfaaCDirWithout
import Derived.Test.YtnokgejmlpmgfaaCEnvLinks
import Derived.Test.YtnokgejmlpmgfaaCRefLinks
namespace Go.Proofs.Ytnokgejmlpmgfaa
open Go.RowKit
set_option linter.unusedVariables false
set_option linter.unusedSimpArgs false

def idsE (l : List En) : List Id := l.map (·.id)
theorem idsE_next {l : List En} {k : Nat} {x : En} (hk : k < l.length) (hx : l[k] = x) : idsE (l.take (k + 1)) = idsE (l.take k) ++ [x.id] := by
  unfold idsE
  rw [List.take_succ_eq_append_getElem hk, hx, List.map_append]
  rfl
theorem idsE_length (l : List En) : (idsE l).length = l.length := by simp [idsE]
set_option maxRecDepth 100000 in
set_option maxHeartbeats 2000000 in
theorem dlinks_code {S : Nat → Prop} {w0 w : World} {L : List Ent} {A : Option Addr} {c : Nat} {l : List En} (h : St S w0 w L) [ka : HasSl L A l.length c 100 (l.flatMap enK)] (hl : l.length ≤ 1000) :
    Calls Try.prog 49 #[.slice A l.length c] w fun e w' => ∃ A' c', e = .returned (.slice A' (linksM (idsE l)).length c') ∧ St S w0 w' (eOwn 85 32 A' (linksM (idsE l)).length c' ((linksM (idsE l)).flatMap idc) :: L) := by
  obtain ⟨M, hM⟩ : ∃ M, linksM (idsE l) = M := ⟨_, rfl⟩
  have HM := Lib.hid hM
  rw [hM]
  clear hM
  go_enter Try.func49, Try.ntmps49
  go_wp2
  replace h := h.nilRow 85 32
  go_loopw [3, 8] (fun v iv wr => ∃ (k : Nat) (A1 : Option Addr) (c1 : Nat) (acc : List Id), v = .slice A1 acc.length c1 ∧ iv = .int .i64 (k : Int) ∧ k ≤ l.length ∧ acc.length ≤ k ∧ Hid (idsE (l.take k) = acc) ∧ St S w0 wr (eOwn 85 32 A1 acc.length c1 (acc.flatMap idc) :: L)) (fun _ iv _ => l.length - (intOf iv).toNat)
  case atStart => exact ⟨0, none, 0, [], rfl, rfl, Nat.zero_le _, Nat.le_refl _, Lib.hid (by simp [idsE]), h⟩
  case round =>
    clear h
    obtain ⟨k, A1, c1, acc, rfl, rfl, hk, hak, Hacc, h⟩ := hrel
    by_cases hkl : k < l.length
    · have f2 : (k : Int) < (l.length : Int) := by omega
      have t1 : ((k : Int)).toNat = k := by omega
      obtain ⟨x, hx⟩ : ∃ x, l[k] = x := ⟨_, rfl⟩
      obtain ⟨b, off, rfl, _⟩ := (h.sl A l.length c).pos (by omega)
      have hcs : ∀ w, Sl w (some ⟨b, off, none⟩) l.length c 100 (l.flatMap enK) → Cells w b (off + k * 100) (enK x) := fun w hs => by rw [← hx]; exact hs.elemAt enK_length hkl (by omega)
      have Hcs := Lib.hid hcs
      have hnx := idsE_next hkl hx
      rw [Hacc.out] at hnx
      obtain ⟨xb, xn, xk, xi, xy, xr, xe⟩ := x
      simp only at hnx
      have Hnx := Lib.hid hnx
      have Hlen := Lib.hid (show (acc ++ [xi]).length = acc.length + 1 by simp)
      have Hflat := Lib.hid (show (acc ++ [xi]).flatMap idc = acc.flatMap idc ++ u8s xi.1 by simp [idc])
      have r1 : Row (u8s xb.1) 32 := Row.u32 xb
      have r2 : Row (u8s xi.1) 32 := Row.u32 xi
      have r3 : Row (u8s xy.1) 32 := Row.u32 xy
      clear hcs hx hnx
      go_wp2_with (first | (refine wl_at 11 rfl ?_; refine wl_reads rfl (ex_load_at _ _ rfl b (off + k * 100) rfl (enK ⟨xb, xn, xk, xi, xy, xr, xe⟩) (enK_length _) (Hcs.out _ (h.sl (some ⟨b, off, none⟩) l.length c))) ?_) | (refine wl_at 5 rfl ?_; refine wl_runs rfl (ex_alloc h 87 rfl) ?_; clear h; rintro _ w ⟨g, rfl, h⟩) | (refine wl_none rfl ?_; refine wl_runs rfl (ex_store h _ _ _ rfl _ _ rfl (enK ⟨xb, xn, xk, xi, xy, xr, xe⟩) rfl) ?_; clear h; rintro _ w ⟨rfl, h⟩; try dsimp only [Act.put]) | (refine wl_at 14 rfl ?_; refine wl_reads rfl (ex_loadv h _ _ rfl _ _ rfl) ?_) | (refine wl_at 15 rfl ?_; refine wl_runs rfl (ex_slice1 h _ _ rfl (u8s xi.1) rfl) ?_; clear h; rintro _ w ⟨gq, rfl, h⟩) | (refine wl_at 16 rfl ?_; refine wl_runs rfl (ex_append h _ _ _ rfl A1 rfl (some ⟨gq, 0, none⟩) 1 1 rfl (h.slBox gq) r2.one (by simp [maxLen]; omega) (by omega)) ?_; clear h; rintro _ w ⟨A2, c2, rfl, h⟩))
      refine ⟨⟨k + 1, A2, c2, _, by rw [Hlen.out], by push_cast; rfl, by omega, by rw [Hlen.out]; omega, Hnx, by rw [Hflat.out, Hlen.out]; exact h.to⟩, ?_⟩
      simp only [intOf]
      omega
    · obtain rfl : k = l.length := by omega
      have hkk : ¬ ((l.length : Int) < (l.length : Int)) := by omega
      have hfin := Hacc.out
      rw [List.take_length] at hfin
      have Hfin := Lib.hid (by rw [← hfin]; exact HM.out : linksM acc = M)
      clear hkl hfin
      replace h := h.release A1 (by omega)
      go_wp2_with (go_at_call 92; refine (env_links (A := A1) (n := acc.length) (c := c1) (l := acc) h (by omega)).mono ?_; rw [Hfin.out]; clear h; rintro e w ⟨A5, c5, rfl, h⟩)
      go_ret
      exact ⟨A5, c5, rfl, h.to⟩
set_option maxRecDepth 100000 in
set_option maxHeartbeats 2000000 in
theorem dlinks_ref {S : Nat → Prop} {w0 w : World} {L : List Ent} {A : Option Addr} {c : Nat} {l : List En} (h : St S w0 w L) [ka : HasSl L A l.length c 100 (l.flatMap enK)] (hl : l.length ≤ 1000) :
    Calls Try.prog 50 #[.slice A l.length c] w fun e w' => ∃ A' c', e = .returned (.slice A' (linksM (idsE l)).length c') ∧ St S w0 w' (eOwn 85 32 A' (linksM (idsE l)).length c' ((linksM (idsE l)).flatMap idc) :: L) := by
  obtain ⟨M, hM⟩ : ∃ M, linksM (idsE l) = M := ⟨_, rfl⟩
  have HM := Lib.hid hM
  rw [hM]
  clear hM
  go_enter Try.func50, Try.ntmps50
  go_wp2
  replace h := h.nilRow 85 32
  go_loopw [3, 8] (fun v iv wr => ∃ (k : Nat) (A1 : Option Addr) (c1 : Nat) (acc : List Id), v = .slice A1 acc.length c1 ∧ iv = .int .i64 (k : Int) ∧ k ≤ l.length ∧ acc.length ≤ k ∧ Hid (idsE (l.take k) = acc) ∧ St S w0 wr (eOwn 85 32 A1 acc.length c1 (acc.flatMap idc) :: L)) (fun _ iv _ => l.length - (intOf iv).toNat)
  case atStart => exact ⟨0, none, 0, [], rfl, rfl, Nat.zero_le _, Nat.le_refl _, Lib.hid (by simp [idsE]), h⟩
  case round =>
    clear h
    obtain ⟨k, A1, c1, acc, rfl, rfl, hk, hak, Hacc, h⟩ := hrel
    by_cases hkl : k < l.length
    · have f2 : (k : Int) < (l.length : Int) := by omega
      have t1 : ((k : Int)).toNat = k := by omega
      obtain ⟨x, hx⟩ : ∃ x, l[k] = x := ⟨_, rfl⟩
      obtain ⟨b, off, rfl, _⟩ := (h.sl A l.length c).pos (by omega)
      have hcs : ∀ w, Sl w (some ⟨b, off, none⟩) l.length c 100 (l.flatMap enK) → Cells w b (off + k * 100) (enK x) := fun w hs => by rw [← hx]; exact hs.elemAt enK_length hkl (by omega)
      have Hcs := Lib.hid hcs
      have hnx := idsE_next hkl hx
      rw [Hacc.out] at hnx
      obtain ⟨xb, xn, xk, xi, xy, xr, xe⟩ := x
      simp only at hnx
      have Hnx := Lib.hid hnx
      have Hlen := Lib.hid (show (acc ++ [xi]).length = acc.length + 1 by simp)
      have Hflat := Lib.hid (show (acc ++ [xi]).flatMap idc = acc.flatMap idc ++ u8s xi.1 by simp [idc])
      have r1 : Row (u8s xb.1) 32 := Row.u32 xb
      have r2 : Row (u8s xi.1) 32 := Row.u32 xi
      have r3 : Row (u8s xy.1) 32 := Row.u32 xy
      clear hcs hx hnx
      go_wp2_with (first | (refine wl_at 11 rfl ?_; refine wl_reads rfl (ex_load_at _ _ rfl b (off + k * 100) rfl (enK ⟨xb, xn, xk, xi, xy, xr, xe⟩) (enK_length _) (Hcs.out _ (h.sl (some ⟨b, off, none⟩) l.length c))) ?_) | (refine wl_at 5 rfl ?_; refine wl_runs rfl (ex_alloc h 87 rfl) ?_; clear h; rintro _ w ⟨g, rfl, h⟩) | (refine wl_none rfl ?_; refine wl_runs rfl (ex_store h _ _ _ rfl _ _ rfl (enK ⟨xb, xn, xk, xi, xy, xr, xe⟩) rfl) ?_; clear h; rintro _ w ⟨rfl, h⟩; try dsimp only [Act.put]) | (refine wl_at 14 rfl ?_; refine wl_reads rfl (ex_loadv h _ _ rfl _ _ rfl) ?_) | (refine wl_at 15 rfl ?_; refine wl_runs rfl (ex_slice1 h _ _ rfl (u8s xi.1) rfl) ?_; clear h; rintro _ w ⟨gq, rfl, h⟩) | (refine wl_at 16 rfl ?_; refine wl_runs rfl (ex_append h _ _ _ rfl A1 rfl (some ⟨gq, 0, none⟩) 1 1 rfl (h.slBox gq) r2.one (by simp [maxLen]; omega) (by omega)) ?_; clear h; rintro _ w ⟨A2, c2, rfl, h⟩))
      refine ⟨⟨k + 1, A2, c2, _, by rw [Hlen.out], by push_cast; rfl, by omega, by rw [Hlen.out]; omega, Hnx, by rw [Hflat.out, Hlen.out]; exact h.to⟩, ?_⟩
      simp only [intOf]
      omega
    · obtain rfl : k = l.length := by omega
      have hkk : ¬ ((l.length : Int) < (l.length : Int)) := by omega
      have hfin := Hacc.out
      rw [List.take_length] at hfin
      have Hfin := Lib.hid (by rw [← hfin]; exact HM.out : linksM acc = M)
      clear hkl hfin
      replace h := h.release A1 (by omega)
      go_wp2_with (go_at_call 93; refine (ref_links (A := A1) (n := acc.length) (c := c1) (l := acc) h (by omega)).mono ?_; rw [Hfin.out]; clear h; rintro e w ⟨A5, c5, rfl, h⟩)
      go_ret
      exact ⟨A5, c5, rfl, h.to⟩
end Go.Proofs.Ytnokgejmlpmgfaa
