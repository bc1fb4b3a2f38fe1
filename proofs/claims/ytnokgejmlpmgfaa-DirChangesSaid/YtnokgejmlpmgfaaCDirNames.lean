/- The names of entries, rising: the code's iterator. -/
import Derived.Test.YtnokgejmlpmgfaaCAllEnt
import Derived.Test.YtnokgejmlpmgfaaCSortStr
import Derived.Test.YtnokgejmlpmgfaaCDirWithM
namespace Go.Proofs.Ytnokgejmlpmgfaa
open Go.RowKit Go.Shelf
set_option linter.unusedVariables false
set_option linter.unusedSimpArgs false

def namesE (l : List En) : List (List UInt8) := l.map (·.name)
theorem namesE_next {l : List En} {k : Nat} {x : En} (hk : k < l.length) (hx : l[k] = x) : namesE (l.take (k + 1)) = namesE (l.take k) ++ [x.name] := by
  unfold namesE
  rw [List.take_succ_eq_append_getElem hk, hx, List.map_append]
  rfl
theorem txs_one (l : List (List UInt8)) : ∀ u ∈ l.flatMap txc, u.oneCell' = true := fun u hu => by
  obtain ⟨x, _, hx⟩ := List.mem_flatMap.1 hu
  simp only [txc, List.mem_singleton] at hx
  subst hx
  rfl
theorem names_make {S : Nat → Prop} {w0 w : World} {L : List Ent} {A : Option Addr} {n c : Nat} (h : St S w0 w L) :
    Calls Try.prog 52 #[.slice A n c] w fun e w' => ∃ gb, e = .returned (.func (.func 94) #[] #[.pointer (some ⟨gb, 0, none⟩)]) ∧ St S w0 w' (eBlk gb 22 [.slice A n c] :: L) := by
  go_enter Try.func52, Try.ntmps52
  go_wp2_with (first
    | (refine wl_runs rfl (ex_box1s h 22 _ rfl A n c rfl) ?_; clear h; rintro _ w ⟨gb, rfl, h⟩))
  go_ret
  exact ⟨gb, rfl, h⟩
set_option maxRecDepth 100000 in
set_option maxHeartbeats 2000000 in
theorem names_iters {gb : Nat} {A : Option Addr} {c : Nat} {l : List En} (hl : l.length ≤ 1000) :
    Iters Try.prog 94 #[.pointer (some ⟨gb, 0, none⟩)] (fun s : List UInt8 => #[.string (str s)]) (fun pre x _ _ _ => pre ++ [x] <+: sortS (namesE l))
      (fun pre stopped Lf => Lf = AL gb A c l [] ∧ (stopped = false → pre = sortS (namesE l))) (AL gb A c l []) := by
  intro n l' J Jx W hW hJ hJx hY h0
  refine callsIn_wide.2 ?_
  go_enter Try.func94, Try.ntmps94
  have h := hW
  go_wp2_with (first | (refine wl_at 8 rfl ?_; refine wl_reads rfl (ex_loadv h _ _ rfl _ _ rfl) ?_))
  clear h
  have h := hW.nilRow 9 1
  go_loopw [3, 10] (fun v iv wr => ∃ (k : Nat) (A1 : Option Addr) (c1 : Nat) (acc : List (List UInt8)), v = .slice A1 acc.length c1 ∧ iv = .int .i64 (k : Int) ∧ k ≤ l.length ∧ acc.length ≤ k ∧ Hid (namesE (l.take k) = acc) ∧ St (owns (AL gb A c l [])) W wr (eOwn 9 1 A1 acc.length c1 (acc.flatMap txc) :: AL gb A c l [])) (fun _ iv _ => l.length - (intOf iv).toNat)
  case atStart => exact ⟨0, none, 0, [], rfl, rfl, Nat.zero_le _, Nat.le_refl _, Lib.hid (by simp [namesE]), h⟩
  case round =>
    clear h
    obtain ⟨k, A1, c1, acc, rfl, rfl, hk, hak, Hacc, h⟩ := hrel
    by_cases hkl : k < l.length
    · have f2 : (k : Int) < (l.length : Int) := by omega
      have t1 : ((k : Int)).toNat = k := by omega
      obtain ⟨x, hx⟩ : ∃ x, l[k] = x := ⟨_, rfl⟩
      obtain ⟨b, off, rfl, _⟩ := (h.sl A l.length c).pos (by omega)
      have hcs : ∀ w, Sl w (some ⟨b, off, none⟩) l.length c 100 (l.flatMap enK) → Cells w b (off + k * 100) (enK x) := fun w hs => by rw [← hx]; exact hs.elemAt enK_length hkl (by omega)
      have Hcs := Lib.hid hcs
      have hnx := namesE_next hkl hx
      rw [Hacc.out] at hnx
      obtain ⟨xb, xn, xk, xi, xy, xr, xe⟩ := x
      simp only at hnx
      have Hnx := Lib.hid hnx
      have Hlen := Lib.hid (show (acc ++ [xn]).length = acc.length + 1 by simp)
      have Hflat := Lib.hid (show (acc ++ [xn]).flatMap txc = acc.flatMap txc ++ [.string (str xn)] by simp [txc])
      have r1 : Row (u8s xb.1) 32 := Row.u32 xb
      have r2 : Row (u8s xi.1) 32 := Row.u32 xi
      have r3 : Row (u8s xy.1) 32 := Row.u32 xy
      clear hcs hx hnx
      go_wp2_with (first | (refine wl_at 13 rfl ?_; refine wl_reads rfl (ex_load_at _ _ rfl b (off + k * 100) rfl (enK ⟨xb, xn, xk, xi, xy, xr, xe⟩) (enK_length _) (Hcs.out _ (h.sl (some ⟨b, off, none⟩) l.length c))) ?_) | (refine wl_at 5 rfl ?_; refine wl_runs rfl (ex_alloc h 87 rfl) ?_; clear h; rintro _ w ⟨g, rfl, h⟩) | (refine wl_none rfl ?_; refine wl_runs rfl (ex_store h _ _ _ rfl _ _ rfl (enK ⟨xb, xn, xk, xi, xy, xr, xe⟩) rfl) ?_; clear h; rintro _ w ⟨rfl, h⟩; try dsimp only [Act.put]) | (refine wl_at 16 rfl ?_; refine wl_reads rfl (ex_loadv h _ _ rfl _ _ rfl) ?_) | (refine wl_at 17 rfl ?_; refine wl_runs rfl (ex_slice1t h _ _ rfl _ rfl) ?_; clear h; rintro _ w ⟨gq, rfl, h⟩) | (refine wl_at 18 rfl ?_; refine wl_runs rfl (ex_append h _ _ _ rfl A1 rfl (some ⟨gq, 0, none⟩) 1 1 rfl (h.sl (some ⟨gq, 0, none⟩) 1 1) (txs_one [xn]) (by simp [maxLen]; omega) (by omega)) ?_; clear h; rintro _ w ⟨A2, c2, rfl, h⟩))
      refine ⟨⟨k + 1, A2, c2, _, by rw [Hlen.out], by push_cast; rfl, by omega, by rw [Hlen.out]; omega, Hnx, by rw [Hflat.out, Hlen.out]; exact h.to⟩, ?_⟩
      simp only [intOf]
      omega
    · obtain rfl : k = l.length := by omega
      have hkk : ¬ ((l.length : Int) < (l.length : Int)) := by omega
      have hfin := Hacc.out
      rw [List.take_length] at hfin
      clear hkl Hacc
      have hal : (sortS acc).length = acc.length := List.length_mergeSort _
      obtain ⟨M, hM⟩ : ∃ M, sortS acc = M := ⟨_, rfl⟩
      rw [hM] at hal
      rw [hfin, hM] at hY
      have HM := Lib.hid hM
      have Hfin := Lib.hid hfin
      clear hM hfin
      go_wp2_with (go_at_call 95; refine (sort_strs (A := A1) (n := acc.length) (c := c1) (l := acc) h rfl (by omega)).mono ?_; rw [HM.out, ← hal]; clear h; rintro e w ⟨rfl, h⟩)
      have hJ2 := hJ _ _ _ (owns (eOwn 9 1 A1 M.length c1 (M.flatMap txc) :: AL gb A c l [])) (reads (eOwn 9 1 A1 M.length c1 (M.flatMap txc) :: AL gb A c l [])) W w h0 h.step (fun i hi => ⟨(h.owns_lt hi).2, (h.owns_lt hi).1⟩) (fun i hi => ⟨by
        obtain ⟨y, hy, hi2⟩ := hi
        rcases List.mem_cons.1 hy with rfl | hy
        · exact hi2.elim
        · exact .inr (.inl ⟨y, hy, hi2⟩), h.readsLt hi⟩)
      have h2 := h.renew
      clear h
      go_loopw [24] (fun iv wr => ∃ q : Nat, q ≤ M.length ∧ iv = .int .i64 (q : Int) ∧ St (owns (eOwn 9 1 A1 M.length c1 (M.flatMap txc) :: AL gb A c l [])) wr wr (eOwn 9 1 A1 M.length c1 (M.flatMap txc) :: AL gb A c l []) ∧ J (M.take q) (owns (eOwn 9 1 A1 M.length c1 (M.flatMap txc) :: AL gb A c l [])) (reads (eOwn 9 1 A1 M.length c1 (M.flatMap txc) :: AL gb A c l [])) wr) (fun iv _ => M.length - (intOf iv).toNat)
      case atStart => exact ⟨0, Nat.zero_le _, rfl, h2, by rw [List.take_zero]; exact hJ2⟩
      case round =>
        clear h0 hW h2 hJ2
        obtain ⟨q, hq, rfl, h, hj⟩ := hrel
        by_cases hqm : q < M.length
        · have f2 : (q : Int) < (M.length : Int) := by omega
          have t0 : ((q : Int)).toNat = q := by omega
          obtain ⟨x, hx⟩ : ∃ x, M[q] = x := ⟨_, rfl⟩
          have Hpre := Lib.hid (show M.take (q + 1) = M.take q ++ [x] by rw [List.take_succ_eq_append_getElem hqm, hx])
          obtain ⟨b2, off2, rfl, _⟩ := (h.sl A1 M.length c1).pos (by omega)
          have hcx : ∀ w, Sl w (some ⟨b2, off2, none⟩) M.length c1 1 (M.flatMap txc) → w.cell? ⟨b2, off2 + q, none⟩ = some (.string (str x)) := fun w hs => by
            have h5 := hs.elemAt txc_length hqm (by omega)
            rw [hx, Nat.mul_one] at h5
            have := h5 0 (.string (str x)) rfl
            simpa using this
          have Hcx := Lib.hid hcx
          clear hx hcx hkk
          go_upto_region 10 with (first
            | (refine wl_at 27 rfl ?_; refine wl_reads rfl (ex_load1_at _ _ rfl b2 (off2 + q) rfl (.string (str x)) (Hcx.out _ (h.sl (some ⟨b2, off2, none⟩) M.length c1))) ?_))
          refine (wpIn_wide (n := n)).1 ?_
          obtain ⟨fn, tmps, assign, body, hy, hR⟩ := hY _ x _ _ _ hj (by rw [← Hpre.out]; exact List.take_prefix _ _)
          gi_wp2_with (fail)
          refine ⟨fun h => (by cases h), hR.mono ?_⟩
          rintro e W3 ⟨hs3, ⟨rfl, hJ3⟩ | ⟨rfl, hJx3⟩⟩
          · replace h := h.over hs3
            gi_wp2
            go_wp2
            refine ⟨⟨q + 1, by omega, by push_cast; rfl, h, by rw [Hpre.out]; exact hJ3⟩, ?_⟩
            simp only [intOf]
            omega
          · replace h := h.over hs3
            have h3 : St _ W3 W3 (AL gb A c l []) := h.to
            have hJ4 := hJx _ _ _ (owns (AL gb A c l [])) (reads (AL gb A c l [])) W3 W3 hJx3 (Step.refl _ _) (fun i hi => ⟨.inl (owns_tail hi), (h3.owns_lt hi).1⟩) (fun i hi => ⟨.inr (.inl (reads_tail hi)), h3.readsLt hi⟩)
            gi_wp2
            go_wp2
            exact bodyPost_ret (results_none rfl _ _ _) rfl (IterEnd.stops (pre := _ ++ [x]) ⟨rfl, fun e => by cases e⟩ h3.renew hJ4)
        · have hqz : q = M.length := by omega
          subst hqz
          rw [List.take_length] at hj
          have h3 : St _ _ _ (AL gb A c l []) := h.to
          have hJ4 := hJ _ _ _ (owns (AL gb A c l [])) (reads (AL gb A c l [])) _ _ hj (Step.refl _ _) (fun i hi => ⟨.inl (owns_tail hi), (h3.owns_lt hi).1⟩) (fun i hi => ⟨.inr (.inl (reads_tail hi)), h3.readsLt hi⟩)
          go_wp2
          go_end0
          exact IterEnd.ends (pre := M) ⟨rfl, fun _ => by rw [← HM.out, ← Hfin.out]⟩ h3.renew hJ4
end Go.Proofs.Ytnokgejmlpmgfaa
