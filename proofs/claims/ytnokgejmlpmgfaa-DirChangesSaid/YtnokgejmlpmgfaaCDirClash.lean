/- Entries that clash: the code and the reference. -/
import Derived.Test.YtnokgejmlpmgfaaCDirWithout
namespace Go.Proofs.Ytnokgejmlpmgfaa
open Go.RowKit
set_option linter.unusedVariables false
set_option linter.unusedSimpArgs false

def clash1 (e x : En) : Bool := x.blind.1 == e.blind.1 && !(x.name == e.name)
def clashM (l : List En) (e : En) : Bool := l.any (clash1 e)
theorem clashM_yes {l : List En} {e : En} {k : Nat} (hk : k < l.length) (h : clash1 e l[k] = true) : clashM l e = true := List.any_eq_true.2 ⟨_, List.getElem_mem hk, h⟩
theorem clashM_no {l : List En} {e : En} (h : ∀ k (hk : k < l.length), clash1 e l[k] = false) : clashM l e = false := List.any_eq_false.2 fun x hx => by
  obtain ⟨k, hk, rfl⟩ := List.getElem_of_mem hx
  rw [h k hk]
  simp
set_option maxRecDepth 100000 in
set_option maxHeartbeats 2000000 in
theorem clash_ref {S : Nat → Prop} {w0 w : World} {L : List Ent} {A : Option Addr} {c : Nat} {l : List En} {e : En} (h : St S w0 w L) [ka : HasSl L A l.length c 100 (l.flatMap enK)] (hl : l.length ≤ 1000) :
    Calls Try.prog 47 #[.slice A l.length c, .agg (enK e).toArray] w fun r w' => r = .returned (.bool (clashM l e)) ∧ St S w0 w' L := by
  obtain ⟨eb, en, ek, ei, ey, er, ee⟩ := e
  have q1 : Row (u8s eb.1) 32 := Row.u32 eb
  have q2 : Row (u8s ei.1) 32 := Row.u32 ei
  have q3 : Row (u8s ey.1) 32 := Row.u32 ey
  go_enter Try.func47, Try.ntmps47
  go_wp2_with (first | (refine wl_at 3 rfl ?_; refine wl_runs rfl (ex_box h 87 _ rfl (enK ⟨eb, en, ek, ei, ey, er, ee⟩) rfl) ?_; clear h; rintro _ w ⟨ge, rfl, h⟩))
  go_loopw [9] (fun iv wr => ∃ k : Nat, iv = .int .i64 (k : Int) ∧ k ≤ l.length ∧ Hid (∀ j (hj : j < l.length), j < k → clash1 ⟨eb, en, ek, ei, ey, er, ee⟩ l[j] = false) ∧ St S w0 wr (eBlk ge 87 (enK ⟨eb, en, ek, ei, ey, er, ee⟩) :: L)) (fun iv _ => l.length - (intOf iv).toNat)
  case atStart => exact ⟨0, rfl, Nat.zero_le _, Lib.hid (fun j hj h => by omega), h⟩
  case round =>
    clear h
    obtain ⟨k, rfl, hk, Hno, h⟩ := hrel
    by_cases hkl : k < l.length
    · have f2 : (k : Int) < (l.length : Int) := by omega
      have t1 : ((k : Int)).toNat = k := by omega
      obtain ⟨x, hx⟩ : ∃ x, l[k] = x := ⟨_, rfl⟩
      obtain ⟨b, off, rfl, _⟩ := (h.sl A l.length c).pos (by omega)
      have hcs : ∀ w, Sl w (some ⟨b, off, none⟩) l.length c 100 (l.flatMap enK) → Cells w b (off + k * 100) (enK x) := fun w hs => by rw [← hx]; exact hs.elemAt enK_length hkl (by omega)
      have Hcs := Lib.hid hcs
      have Hx := Lib.hid hx
      obtain ⟨B, hB⟩ : ∃ B, (!(x.name == en)) = B := ⟨_, rfl⟩
      obtain ⟨B2, hB2⟩ : ∃ B2, (x.blind.1 == eb.1) = B2 := ⟨_, rfl⟩
      have hst : (!((str x.name).toList == (str en).toList)) = B := by rw [str_toList, str_toList]; exact hB
      have Hcl : Hid (clash1 ⟨eb, en, ek, ei, ey, er, ee⟩ x = (B2 && B)) := Lib.hid (by unfold clash1; rw [hB2, hB])
      have Hk := Lib.hid hkl
      obtain ⟨xb, xn, xk, xi, xy, xr, xe⟩ := x
      simp only at hst hB2
      have r1 : Row (u8s xb.1) 32 := Row.u32 xb
      have r2 : Row (u8s xi.1) 32 := Row.u32 xi
      have r3 : Row (u8s xy.1) 32 := Row.u32 xy
      clear hcs hx hB
      by_cases hBB : B2 = true ∧ B = true
      · obtain ⟨rfl, rfl⟩ := hBB
        have Hd := Lib.hid (clashM_yes Hk.out (by rw [Hx.out, Hcl.out]; rfl))
        go_wp2_with (first | (refine wl_at 12 rfl ?_; refine wl_reads rfl (ex_load_at _ _ rfl b (off + k * 100) rfl (enK ⟨xb, xn, xk, xi, xy, xr, xe⟩) (enK_length _) (Hcs.out _ (h.sl (some ⟨b, off, none⟩) l.length c))) ?_) | (refine wl_at 6 rfl ?_; refine wl_runs rfl (ex_alloc h 87 rfl) ?_; clear h; rintro _ w ⟨g, rfl, h⟩) | (refine wl_none rfl ?_; refine wl_runs rfl (ex_store h _ _ _ rfl _ _ rfl (enK ⟨xb, xn, xk, xi, xy, xr, xe⟩) rfl) ?_; clear h; rintro _ w ⟨rfl, h⟩; try dsimp only [Act.put]) | (refine wl_at 14 rfl ?_; refine wl_reads rfl (ex_loadv h _ _ rfl _ _ rfl) ?_) | (refine wl_at 16 rfl ?_; refine wl_reads rfl (ex_loadv h _ _ rfl _ _ rfl) ?_) | (refine wl_at 17 rfl ?_; refine wl_reads rfl (ex_eq _ _ _ _ rfl xb.1 eb.1 rfl rfl xb.2 eb.2 true hB2) ?_) | (refine wl_at 20 rfl ?_; refine wl_reads rfl (ex_loadv h _ _ rfl _ _ rfl) ?_) | (refine wl_at 22 rfl ?_; refine wl_reads rfl (ex_loadv h _ _ rfl _ _ rfl) ?_))
        go_ret
        exact ⟨by rw [Hd.out]; rfl, h.to⟩
      · have Hno2 : Hid (∀ j (hj : j < l.length), j < k + 1 → clash1 ⟨eb, en, ek, ei, ey, er, ee⟩ l[j] = false) := Lib.hid (fun j hj h2 => by
          rcases Nat.lt_succ_iff_lt_or_eq.1 h2 with h3 | rfl
          · exact Hno.out j hj h3
          · rw [Hx.out, Hcl.out]; cases B2 <;> cases B <;> simp_all)
        cases B2 with
        | true =>
          cases B with
          | true => exact absurd ⟨rfl, rfl⟩ hBB
          | false =>
            clear hBB
            go_wp2_with (first | (refine wl_at 12 rfl ?_; refine wl_reads rfl (ex_load_at _ _ rfl b (off + k * 100) rfl (enK ⟨xb, xn, xk, xi, xy, xr, xe⟩) (enK_length _) (Hcs.out _ (h.sl (some ⟨b, off, none⟩) l.length c))) ?_) | (refine wl_at 6 rfl ?_; refine wl_runs rfl (ex_alloc h 87 rfl) ?_; clear h; rintro _ w ⟨g, rfl, h⟩) | (refine wl_none rfl ?_; refine wl_runs rfl (ex_store h _ _ _ rfl _ _ rfl (enK ⟨xb, xn, xk, xi, xy, xr, xe⟩) rfl) ?_; clear h; rintro _ w ⟨rfl, h⟩; try dsimp only [Act.put]) | (refine wl_at 14 rfl ?_; refine wl_reads rfl (ex_loadv h _ _ rfl _ _ rfl) ?_) | (refine wl_at 16 rfl ?_; refine wl_reads rfl (ex_loadv h _ _ rfl _ _ rfl) ?_) | (refine wl_at 17 rfl ?_; refine wl_reads rfl (ex_eq _ _ _ _ rfl xb.1 eb.1 rfl rfl xb.2 eb.2 true hB2) ?_) | (refine wl_at 20 rfl ?_; refine wl_reads rfl (ex_loadv h _ _ rfl _ _ rfl) ?_) | (refine wl_at 22 rfl ?_; refine wl_reads rfl (ex_loadv h _ _ rfl _ _ rfl) ?_))
            refine ⟨⟨k + 1, by push_cast; rfl, by omega, Hno2, h.to⟩, ?_⟩
            simp only [intOf]
            omega
        | false =>
          clear hBB hst
          go_wp2_with (first | (refine wl_at 12 rfl ?_; refine wl_reads rfl (ex_load_at _ _ rfl b (off + k * 100) rfl (enK ⟨xb, xn, xk, xi, xy, xr, xe⟩) (enK_length _) (Hcs.out _ (h.sl (some ⟨b, off, none⟩) l.length c))) ?_) | (refine wl_at 6 rfl ?_; refine wl_runs rfl (ex_alloc h 87 rfl) ?_; clear h; rintro _ w ⟨g, rfl, h⟩) | (refine wl_none rfl ?_; refine wl_runs rfl (ex_store h _ _ _ rfl _ _ rfl (enK ⟨xb, xn, xk, xi, xy, xr, xe⟩) rfl) ?_; clear h; rintro _ w ⟨rfl, h⟩; try dsimp only [Act.put]) | (refine wl_at 14 rfl ?_; refine wl_reads rfl (ex_loadv h _ _ rfl _ _ rfl) ?_) | (refine wl_at 16 rfl ?_; refine wl_reads rfl (ex_loadv h _ _ rfl _ _ rfl) ?_) | (refine wl_at 17 rfl ?_; refine wl_reads rfl (ex_eq _ _ _ _ rfl xb.1 eb.1 rfl rfl xb.2 eb.2 false hB2) ?_; go_wp2))
          refine ⟨⟨k + 1, by push_cast; rfl, by omega, Hno2, h.to⟩, ?_⟩
          simp only [intOf]
          omega
    · obtain rfl : k = l.length := by omega
      have hkk : ¬ ((l.length : Int) < (l.length : Int)) := by omega
      have Hd := Lib.hid (clashM_no (l := l) (fun k hk => Hno.out k hk hk))
      clear hkl
      go_wp2
      go_ret
      exact ⟨by rw [Hd.out]; rfl, h.to⟩
set_option maxRecDepth 100000 in
set_option maxHeartbeats 2000000 in
/-- The code's question of one entry. -/
theorem clash_fn {S : Nat → Prop} {w0 w : World} {L F : List Ent} {ge : Nat} {e x : En} (h : St S w0 w L) [kb : SlotB L ge 87 (enK e) F] :
    Calls Try.prog 91 #[.agg (enK x).toArray, .pointer (some ⟨ge, 0, none⟩)] w fun r w' => r = .returned (.bool (clash1 e x)) ∧ St S w0 w' (eBlk ge 87 (enK e) :: F) := by
  replace h := h.perm kb.perm
  clear kb
  obtain ⟨B, hB⟩ : ∃ B, (!(x.name == e.name)) = B := ⟨_, rfl⟩
  obtain ⟨B2, hB2⟩ : ∃ B2, (x.blind.1 == e.blind.1) = B2 := ⟨_, rfl⟩
  have hst : (!((str x.name).toList == (str e.name).toList)) = B := by rw [str_toList, str_toList]; exact hB
  have Hcl : Hid (clash1 e x = (B2 && B)) := Lib.hid (by unfold clash1; rw [hB2, hB])
  obtain ⟨eb, en, ek, ei, ey, er, ee⟩ := e
  obtain ⟨xb, xn, xk, xi, xy, xr, xe⟩ := x
  simp only at hst hB2
  have q1 : Row (u8s eb.1) 32 := Row.u32 eb
  have q2 : Row (u8s ei.1) 32 := Row.u32 ei
  have q3 : Row (u8s ey.1) 32 := Row.u32 ey
  have r1 : Row (u8s xb.1) 32 := Row.u32 xb
  have r2 : Row (u8s xi.1) 32 := Row.u32 xi
  have r3 : Row (u8s xy.1) 32 := Row.u32 xy
  clear hB
  cases B2 with
  | true =>
    go_enter Try.func91, Try.ntmps91
    go_wp2_with (first
      | (refine wl_at 2 rfl ?_; refine wl_runs rfl (ex_box h 87 _ rfl (enK ⟨xb, xn, xk, xi, xy, xr, xe⟩) rfl) ?_; clear h; rintro _ w ⟨gx, rfl, h⟩)
      | (refine wl_at 5 rfl ?_; refine wl_reads rfl (ex_loadv h _ _ rfl _ _ rfl) ?_)
      | (refine wl_at 7 rfl ?_; refine wl_reads rfl (ex_loadv h _ _ rfl _ _ rfl) ?_)
      | (refine wl_at 8 rfl ?_; refine wl_reads rfl (ex_eq _ _ _ _ rfl xb.1 eb.1 rfl rfl xb.2 eb.2 true hB2) ?_)
      | (refine wl_at 11 rfl ?_; refine wl_reads rfl (ex_loadv h _ _ rfl _ _ rfl) ?_)
      | (refine wl_at 13 rfl ?_; refine wl_reads rfl (ex_loadv h _ _ rfl _ _ rfl) ?_))
    go_ret
    exact ⟨by rw [Hcl.out]; rfl, h.to⟩
  | false =>
    clear hst
    go_enter Try.func91, Try.ntmps91
    go_wp2_with (first
      | (refine wl_at 2 rfl ?_; refine wl_runs rfl (ex_box h 87 _ rfl (enK ⟨xb, xn, xk, xi, xy, xr, xe⟩) rfl) ?_; clear h; rintro _ w ⟨gx, rfl, h⟩)
      | (refine wl_at 5 rfl ?_; refine wl_reads rfl (ex_loadv h _ _ rfl _ _ rfl) ?_)
      | (refine wl_at 7 rfl ?_; refine wl_reads rfl (ex_loadv h _ _ rfl _ _ rfl) ?_)
      | (refine wl_at 8 rfl ?_; refine wl_reads rfl (ex_eq _ _ _ _ rfl xb.1 eb.1 rfl rfl xb.2 eb.2 false hB2) ?_; go_wp2))
    go_ret
    exact ⟨by rw [Hcl.out]; rfl, h.to⟩
set_option maxRecDepth 100000 in
set_option maxHeartbeats 2000000 in
theorem clash_index {S : Nat → Prop} {w0 w : World} {L : List Ent} {A : Option Addr} {c ge : Nat} {l : List En} {e : En} (h : St S w0 w (eBlk ge 87 (enK e) :: L)) [ka : HasSl L A l.length c 100 (l.flatMap enK)] (hl : l.length ≤ 1000) :
    Calls Try.prog 116 #[.slice A l.length c, .func (.func 91) #[] #[.pointer (some ⟨ge, 0, none⟩)]] w fun r w' => (∃ i : Int, r = .returned (.int .i64 i) ∧ decide (0 ≤ i) = clashM l e) ∧ St S w0 w' (eBlk ge 87 (enK e) :: L) := by
  go_enter Try.func116, Try.ntmps116
  go_wp2
  go_loopw [8] (fun iv wr => ∃ k : Nat, iv = .int .i64 (k : Int) ∧ k ≤ l.length ∧ Hid (∀ j (hj : j < l.length), j < k → clash1 e l[j] = false) ∧ St S w0 wr (eBlk ge 87 (enK e) :: L)) (fun iv _ => l.length - (intOf iv).toNat)
  case atStart => exact ⟨0, rfl, Nat.zero_le _, Lib.hid (fun j hj h => by omega), h⟩
  case round =>
    clear h
    obtain ⟨k, rfl, hk, Hno, h⟩ := hrel
    by_cases hkl : k < l.length
    · have f2 : (k : Int) < (l.length : Int) := by omega
      have t1 : ((k : Int)).toNat = k := by omega
      obtain ⟨x, hx⟩ : ∃ x, l[k] = x := ⟨_, rfl⟩
      obtain ⟨b, off, rfl, _⟩ := (h.sl A l.length c).pos (by omega)
      have hcs : ∀ w, Sl w (some ⟨b, off, none⟩) l.length c 100 (l.flatMap enK) → Cells w b (off + k * 100) (enK x) := fun w hs => by rw [← hx]; exact hs.elemAt enK_length hkl (by omega)
      have Hcs := Lib.hid hcs
      have Hx := Lib.hid hx
      have Hk := Lib.hid hkl
      obtain ⟨C, hC⟩ : ∃ C, clash1 e x = C := ⟨_, rfl⟩
      have HC := Lib.hid hC
      clear hcs hx hC
      cases C with
      | true =>
        have Hd := Lib.hid (clashM_yes Hk.out (by rw [Hx.out, HC.out]))
        go_wp2_with (first
          | (refine wl_at 15 rfl ?_; refine wl_reads rfl (ex_load_at _ _ rfl b (off + k * 100) rfl (enK x) (enK_length _) (Hcs.out _ (h.sl (some ⟨b, off, none⟩) l.length c))) ?_)
          | (go_at_call 91; refine (clash_fn (ge := ge) (e := e) (x := x) h).mono ?_; rw [HC.out]; clear h; rintro r w ⟨rfl, h⟩))
        go_ret
        exact ⟨⟨_, rfl, by rw [Hd.out]; simp⟩, h⟩
      | false =>
        have Hno2 : Hid (∀ j (hj : j < l.length), j < k + 1 → clash1 e l[j] = false) := Lib.hid (fun j hj h2 => by
          rcases Nat.lt_succ_iff_lt_or_eq.1 h2 with h3 | rfl
          · exact Hno.out j hj h3
          · rw [Hx.out, HC.out])
        go_wp2_with (first
          | (refine wl_at 15 rfl ?_; refine wl_reads rfl (ex_load_at _ _ rfl b (off + k * 100) rfl (enK x) (enK_length _) (Hcs.out _ (h.sl (some ⟨b, off, none⟩) l.length c))) ?_)
          | (go_at_call 91; refine (clash_fn (ge := ge) (e := e) (x := x) h).mono ?_; rw [HC.out]; clear h; rintro r w ⟨rfl, h⟩))
        refine ⟨⟨k + 1, by push_cast; rfl, by omega, Hno2, h⟩, ?_⟩
        simp only [intOf]
        omega
    · obtain rfl : k = l.length := by omega
      have hkk : ¬ ((l.length : Int) < (l.length : Int)) := by omega
      have Hd := Lib.hid (clashM_no (l := l) (fun k hk => Hno.out k hk hk))
      clear hkl
      go_wp2
      go_ret
      exact ⟨⟨_, rfl, by rw [Hd.out]; decide⟩, h⟩
set_option maxRecDepth 100000 in
theorem clash_code {S : Nat → Prop} {w0 w : World} {L : List Ent} {A : Option Addr} {c : Nat} {l : List En} {e : En} (h : St S w0 w L) [ka : HasSl L A l.length c 100 (l.flatMap enK)] (hl : l.length ≤ 1000) :
    Calls Try.prog 46 #[.slice A l.length c, .agg (enK e).toArray] w fun r w' => r = .returned (.bool (clashM l e)) ∧ St S w0 w' L := by
  have hcf : ∀ {w : World} {ge : Nat}, St S w0 w (eBlk ge 87 (enK e) :: L) → Calls Try.prog 90 #[.slice A l.length c, .func (.func 91) #[] #[.pointer (some ⟨ge, 0, none⟩)]] w fun r w' => r = .returned (.bool (clashM l e)) ∧ St S w0 w' (eBlk ge 87 (enK e) :: L) := fun {w ge} h => by
    go_enter Try.func90, Try.ntmps90
    go_wp2_with (go_at_call 116; refine (clash_index h hl).mono ?_; clear h; rintro r w ⟨⟨i, rfl, hi⟩, h⟩)
    go_ret
    exact ⟨rfl, h⟩
  go_enter Try.func46, Try.ntmps46
  go_wp2_with (first
    | (refine wl_at 3 rfl ?_; refine wl_runs rfl (ex_box h 87 _ rfl (enK e) rfl) ?_; clear h; rintro _ w ⟨ge, rfl, h⟩)
    | (go_at_call 90; refine (hcf h).mono ?_; clear h; rintro r w ⟨rfl, h⟩))
  go_ret
  exact ⟨rfl, h.to⟩
end Go.Proofs.Ytnokgejmlpmgfaa
