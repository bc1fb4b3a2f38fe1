/- dir.Good: the loop. -/
import Derived.Test.YtnokgejmlpmgfaaCDirGood
import Derived.Test.YtnokgejmlpmgfaaCB2
namespace Go.Proofs.Ytnokgejmlpmgfaa
open Go.RowKit
set_option linter.unusedVariables false
set_option linter.unusedSimpArgs false

theorem cells_pre {w : World} {b off : Nat} {xs ys : List Value} (h : Cells w b off (xs ++ ys)) : Cells w b off xs := fun i u hu => h i u (by
  have hi : i < xs.length := by
    rcases Nat.lt_or_ge i xs.length with h1 | h1
    · exact h1
    · rw [List.getElem?_eq_none h1] at hu; cases hu
  rw [List.getElem?_append_left hi]; exact hu)
theorem lessI_cmp (x y : Id) : decide (Lib.compareBytes x.1 y.1 < 0) = lessI x y := by
  unfold lessI
  cases h : lessM x.1 y.1 with
  | true =>
    have : ¬ 0 ≤ Lib.compareBytes x.1 y.1 := fun hh => by rw [(cmp_less _ _).1 hh] at h; cases h
    simp
    omega
  | false =>
    have := (cmp_less _ _).2 h
    simp
    omega
theorem met_next {l : List En} {k : Nat} {e : En} {m : List (Nm × Nat)} {hn : e.name.length ≤ maxLen} (hk : k < l.length) (he : l[k] = e) (h : ∀ b : Nm, mget m b = if metM l k b.1 = true then some 1 else none) : ∀ b : Nm, mget (mset m ⟨e.name, hn⟩ 1) b = if metM l (k + 1) b.1 = true then some 1 else none := fun b => by
  rw [mget_set, metM_succ hk he]
  by_cases hb : b = ⟨e.name, hn⟩
  · subst hb
    simp
  · have h2 : (e.name == b.1) = false := by
      simp only [beq_eq_false_iff_ne]
      exact fun h3 => hb (Subtype.ext h3.symm)
    rw [if_neg hb, h b, h2, Bool.or_false]
set_option maxRecDepth 100000 in
set_option maxHeartbeats 8000000 in
theorem dir_good {S : Nat → Prop} {w0 w : World} {L : List Ent} {A : Option Addr} {c : Nat} {l : List En} (h : St S w0 w L) [ka : HasSl L A l.length c 100 (l.flatMap enK)] (hnm : ∀ e ∈ l, e.name.length ≤ maxLen) :
    Calls Try.prog 17 #[.slice A l.length c] w fun r w' => r = .returned (.bool (dirM l)) ∧ St S w0 w' L := by
  by_cases c1 : 500 < l.length
  · have Hd := Lib.hid (dirM_long c1)
    go_enter Try.func17, Try.ntmps17
    go_wp2
    go_ret
    exact ⟨by rw [Hd.out]; rfl, h⟩
  have Hnm := Lib.hid hnm
  clear hnm
  go_enter Try.func17, Try.ntmps17
  go_wp2_with (first
    | (refine wl_runs rfl (ex_mmake h _ rfl nmv natv) ?_; clear h; rintro _ w ⟨gm, rfl, h⟩))
  go_loopw [13] (fun iv wr => ∃ (k : Nat) (m : List (Nm × Nat)), iv = .int .i64 (k : Int) ∧ k ≤ l.length ∧ Hid (∀ j, j < k → okM l j = true) ∧ Hid (∀ b : Nm, mget m b = if metM l k b.1 = true then some 1 else none) ∧ St S w0 wr (eMap gm nmv natv m :: L)) (fun iv _ => l.length - (intOf iv).toNat)
  case atStart => exact ⟨0, [], rfl, Nat.zero_le _, Lib.hid (fun j hj => by omega), Lib.hid (fun b => by rw [metM_zero]; rfl), h⟩
  case round =>
    clear h
    obtain ⟨k, m, rfl, hk, Hok, Hmap, h⟩ := hrel
    by_cases hkl : k < l.length
    · have f2 : (k : Int) < (l.length : Int) := by omega
      have t1 : ((k : Int)).toNat = k := by omega
      obtain ⟨e, he⟩ : ∃ e, l[k] = e := ⟨_, rfl⟩
      have hnl : e.name.length ≤ maxLen := Hnm.out e (by rw [← he]; exact List.getElem_mem _)
      obtain ⟨b, off, rfl, _⟩ := (h.sl A l.length c).pos (by omega)
      have hcs : ∀ {w}, Sl w (some ⟨b, off, none⟩) l.length c 100 (l.flatMap enK) → Cells w b (off + k * 100) (enK e) := fun hs => by rw [← he]; exact hs.elemAt enK_length hkl (by omega)
      have hnx := met_next (hn := hnl) hkl he Hmap.out
      have Hnx := Lib.hid hnx
      have Hkl := Lib.hid hkl
      have Hm0 := Lib.hid (Hmap.out ⟨e.name, hnl⟩)
      obtain ⟨O, hO⟩ : ∃ O, oneM e = O := ⟨_, rfl⟩
      have HO := Lib.hid hO
      clear hnx
      by_cases hk0 : k = 0
      · have Hm : Hid (mget m ⟨e.name, hnl⟩ = none) := Lib.hid (by rw [Hm0.out, hk0, metM_zero]; rfl)
        have Hr : Hid (okM l k = O) := Lib.hid (by subst hk0; rw [okM_zero hkl he, HO.out])
        have f0 : ((k : Int) == 0) = true := by simp; omega
        have hcs0 : ∀ {w}, Sl w (some ⟨b, off, none⟩) l.length c 100 (l.flatMap enK) → Cells w b off (enK e) := fun hs => by have := hcs hs; rwa [hk0, Nat.zero_mul, Nat.add_zero] at this
        clear Hm0 Hmap hO he
        obtain ⟨blind, name, kind, id, key, realm, epoch⟩ := e
        simp only at hnl
        have r1 : Row (u8s blind.1) 32 := Row.u32 blind
        have r2 : Row (u8s id.1) 32 := Row.u32 id
        have r3 : Row (u8s key.1) 32 := Row.u32 key
        cases O with
        | true =>
          go_upto_region 8 with (first | (refine wl_at 17 rfl ?_; refine wl_reads rfl (ex_load_at _ _ rfl b off rfl (enK ⟨blind, name, kind, id, key, realm, epoch⟩) (enK_length _) (hcs0 (h.sl (some ⟨b, off, none⟩) l.length c))) ?_) | (refine wl_runs rfl (ex_alloc h 87 rfl) ?_; clear h; rintro _ w ⟨g5, rfl, h⟩) | (refine wl_runs rfl (ex_store h _ _ _ rfl _ _ rfl (enK ⟨blind, name, kind, id, key, realm, epoch⟩) rfl) ?_; clear h; rintro _ w ⟨rfl, h⟩; try dsimp only [Act.put]) | (refine wl_at 21 rfl ?_; refine wl_reads rfl (ex_look1_none nmv natv h _ _ _ rfl gm rfl ⟨name, hnl⟩ rfl Hm.out) ?_) | (refine wl_runs rfl (ex_mput (kv := nmv) (vv := natv) h _ _ _ _ rfl gm rfl ⟨name, hnl⟩ rfl 1 rfl) ?_; clear h; rintro _ w ⟨rfl, h⟩; try dsimp only [Act.put]) | (refine wl_reads rfl (ex_loadv h _ _ rfl _ _ rfl) ?_))
          refine wp_region_K 15 (fun w' => St _ _ w' _) (by kernel_rfl) h.drew ?_; replace h := h.drew
          refine wpAnyK_pure 23 (v := ?_) (i := 0) (fuel := 14) rfl rfl (by kernel_rfl) (by kernel_rfl) (by kernel_rfl) (by decide) (fun _ _ _ h => h) (Or.inl ⟨by rfl, fun w _ => ?_⟩) ?_; rotate_left; (go_simp; with_reducible rfl); simp only [Act.put, List.setIfInBounds_toArray, List.set_cons_zero, List.set_cons_succ]
          refine wpAnyK_pure 24 (v := ?_) (i := 1) (fuel := 13) rfl rfl (by kernel_rfl) (by kernel_rfl) (by kernel_rfl) (by decide) (fun _ _ _ h => h) (Or.inl ⟨by rfl, fun w _ => ?_⟩) ?_; rotate_left; (go_simp; with_reducible rfl); simp only [Act.put, List.setIfInBounds_toArray, List.set_cons_zero, List.set_cons_succ]
          refine wpAnyK_pure 25 (v := ?_) (i := 2) (fuel := 12) rfl rfl (by kernel_rfl) (by kernel_rfl) (by kernel_rfl) (by decide) (fun _ _ _ h => h) (Or.inl ⟨by rfl, fun w _ => ?_⟩) ?_; rotate_left; (go_simp; with_reducible rfl); simp only [Act.put, List.setIfInBounds_toArray, List.set_cons_zero, List.set_cons_succ]
          refine wpAnyK_not 26 (i := 3) (fuel := 11) rfl rfl (by kernel_rfl) (by kernel_rfl) (by kernel_rfl) (by decide) (fun _ _ _ h => h) (by rfl) ?_; simp only [Act.put, List.setIfInBounds_toArray, List.set_cons_zero, List.set_cons_succ]
          refine wpAnyK_not 27 (i := 4) (fuel := 10) rfl rfl (by kernel_rfl) (by kernel_rfl) (by kernel_rfl) (by decide) (fun _ _ _ h => h) (by rfl) ?_; simp only [Act.put, List.setIfInBounds_toArray, List.set_cons_zero, List.set_cons_succ]
          refine wpAnyK_not 28 (i := 5) (fuel := 9) rfl rfl (by kernel_rfl) (by kernel_rfl) (by kernel_rfl) (by decide) (fun _ _ _ h => h) (by rfl) ?_; simp only [Act.put, List.setIfInBounds_toArray, List.set_cons_zero, List.set_cons_succ]
          refine wpAnyK_not 29 (i := 6) (fuel := 8) rfl rfl (by kernel_rfl) (by kernel_rfl) (by kernel_rfl) (by decide) (fun _ _ _ h => h) (by rfl) ?_; simp only [Act.put, List.setIfInBounds_toArray, List.set_cons_zero, List.set_cons_succ]
          refine wpAnyK_not 30 (i := 7) (fuel := 7) rfl rfl (by kernel_rfl) (by kernel_rfl) (by kernel_rfl) (by decide) (fun _ _ _ h => h) (by rfl) ?_; simp only [Act.put, List.setIfInBounds_toArray, List.set_cons_zero, List.set_cons_succ]
          refine wpAnyK_not 31 (i := 8) (fuel := 6) rfl rfl (by kernel_rfl) (by kernel_rfl) (by kernel_rfl) (by decide) (fun _ _ _ h => h) (by rfl) ?_; simp only [Act.put, List.setIfInBounds_toArray, List.set_cons_zero, List.set_cons_succ]
          refine wpAnyK_not 32 (i := 9) (fuel := 5) rfl rfl (by kernel_rfl) (by kernel_rfl) (by kernel_rfl) (by decide) (fun _ _ _ h => h) (by rfl) ?_; simp only [Act.put, List.setIfInBounds_toArray, List.set_cons_zero, List.set_cons_succ]
          refine wpAnyK_not 33 (i := 10) (fuel := 4) rfl rfl (by kernel_rfl) (by kernel_rfl) (by kernel_rfl) (by decide) (fun _ _ _ h => h) (by rfl) ?_; simp only [Act.put, List.setIfInBounds_toArray, List.set_cons_zero, List.set_cons_succ]
          refine wpAnyK_not 34 (i := 11) (fuel := 3) rfl rfl (by kernel_rfl) (by kernel_rfl) (by kernel_rfl) (by decide) (fun _ _ _ h => h) (by rfl) ?_; simp only [Act.put, List.setIfInBounds_toArray, List.set_cons_zero, List.set_cons_succ]
          refine wpAnyK_not 35 (i := 12) (fuel := 2) rfl rfl (by kernel_rfl) (by kernel_rfl) (by kernel_rfl) (by decide) (fun _ _ _ h => h) (by rfl) ?_; simp only [Act.put, List.setIfInBounds_toArray, List.set_cons_zero, List.set_cons_succ]
          refine wpAnyK_pure 36 (v := ?_) (i := 13) (fuel := 1) rfl rfl (by kernel_rfl) (by kernel_rfl) (by kernel_rfl) (by decide) (fun _ _ _ h => h) (Or.inl ⟨by rfl, fun w _ => ?_⟩) ?_; rotate_left; (go_simp; with_reducible rfl); simp only [Act.put, List.setIfInBounds_toArray, List.set_cons_zero, List.set_cons_succ]
          refine wpAnyK_pure 6 (v := ?_) (i := 14) (fuel := 0) rfl rfl (by kernel_rfl) (by kernel_rfl) (by kernel_rfl) (by decide) (fun _ _ _ h => h) (Or.inl ⟨by rfl, fun w _ => ?_⟩) ?_; rotate_left; (go_simp; with_reducible rfl); simp only [Act.put, List.setIfInBounds_toArray, List.set_cons_zero, List.set_cons_succ]
          refine wpAnyK_done (by kernel_rfl) ?_
          go_wp2_with (first | (go_at_call 60; refine (one_code (e := ⟨blind, name, kind, id, key, realm, epoch⟩) h).mono ?_; rw [HO.out]; clear h; rintro r w ⟨rfl, h⟩) | (refine wl_at 48 rfl ?_; refine wl_reads (v := .int .i64 1) rfl (ex_look1_some nmv natv h _ _ _ rfl gm rfl ⟨name, hnl⟩ rfl (v := 1) (by rw [mget_set, if_pos rfl])) ?_) | (refine wl_reads rfl (ex_loadv h _ _ rfl _ _ rfl) ?_))
          refine ⟨⟨k + 1, _, by rw [hk0]; rfl, by omega, Lib.hid (fun i hi => ?_), Hnx, h.to⟩, ?_⟩
          · rcases Nat.lt_succ_iff_lt_or_eq.1 hi with h1 | rfl
            · exact Hok.out i h1
            · exact Hr.out
          · simp only [intOf]
            omega
        | false =>
          have Hd := Lib.hid (dirM_no Hkl.out Hr.out)
          go_upto_region 8 with (first | (refine wl_at 17 rfl ?_; refine wl_reads rfl (ex_load_at _ _ rfl b off rfl (enK ⟨blind, name, kind, id, key, realm, epoch⟩) (enK_length _) (hcs0 (h.sl (some ⟨b, off, none⟩) l.length c))) ?_) | (refine wl_runs rfl (ex_alloc h 87 rfl) ?_; clear h; rintro _ w ⟨g5, rfl, h⟩) | (refine wl_runs rfl (ex_store h _ _ _ rfl _ _ rfl (enK ⟨blind, name, kind, id, key, realm, epoch⟩) rfl) ?_; clear h; rintro _ w ⟨rfl, h⟩; try dsimp only [Act.put]) | (refine wl_at 21 rfl ?_; refine wl_reads rfl (ex_look1_none nmv natv h _ _ _ rfl gm rfl ⟨name, hnl⟩ rfl Hm.out) ?_) | (refine wl_runs rfl (ex_mput (kv := nmv) (vv := natv) h _ _ _ _ rfl gm rfl ⟨name, hnl⟩ rfl 1 rfl) ?_; clear h; rintro _ w ⟨rfl, h⟩; try dsimp only [Act.put]) | (refine wl_reads rfl (ex_loadv h _ _ rfl _ _ rfl) ?_))
          refine wp_region_K 15 (fun w' => St _ _ w' _) (by kernel_rfl) h.drew ?_; replace h := h.drew
          refine wpAnyK_pure 23 (v := ?_) (i := 0) (fuel := 14) rfl rfl (by kernel_rfl) (by kernel_rfl) (by kernel_rfl) (by decide) (fun _ _ _ h => h) (Or.inl ⟨by rfl, fun w _ => ?_⟩) ?_; rotate_left; (go_simp; with_reducible rfl); simp only [Act.put, List.setIfInBounds_toArray, List.set_cons_zero, List.set_cons_succ]
          refine wpAnyK_pure 24 (v := ?_) (i := 1) (fuel := 13) rfl rfl (by kernel_rfl) (by kernel_rfl) (by kernel_rfl) (by decide) (fun _ _ _ h => h) (Or.inl ⟨by rfl, fun w _ => ?_⟩) ?_; rotate_left; (go_simp; with_reducible rfl); simp only [Act.put, List.setIfInBounds_toArray, List.set_cons_zero, List.set_cons_succ]
          refine wpAnyK_pure 25 (v := ?_) (i := 2) (fuel := 12) rfl rfl (by kernel_rfl) (by kernel_rfl) (by kernel_rfl) (by decide) (fun _ _ _ h => h) (Or.inl ⟨by rfl, fun w _ => ?_⟩) ?_; rotate_left; (go_simp; with_reducible rfl); simp only [Act.put, List.setIfInBounds_toArray, List.set_cons_zero, List.set_cons_succ]
          refine wpAnyK_not 26 (i := 3) (fuel := 11) rfl rfl (by kernel_rfl) (by kernel_rfl) (by kernel_rfl) (by decide) (fun _ _ _ h => h) (by rfl) ?_; simp only [Act.put, List.setIfInBounds_toArray, List.set_cons_zero, List.set_cons_succ]
          refine wpAnyK_not 27 (i := 4) (fuel := 10) rfl rfl (by kernel_rfl) (by kernel_rfl) (by kernel_rfl) (by decide) (fun _ _ _ h => h) (by rfl) ?_; simp only [Act.put, List.setIfInBounds_toArray, List.set_cons_zero, List.set_cons_succ]
          refine wpAnyK_not 28 (i := 5) (fuel := 9) rfl rfl (by kernel_rfl) (by kernel_rfl) (by kernel_rfl) (by decide) (fun _ _ _ h => h) (by rfl) ?_; simp only [Act.put, List.setIfInBounds_toArray, List.set_cons_zero, List.set_cons_succ]
          refine wpAnyK_not 29 (i := 6) (fuel := 8) rfl rfl (by kernel_rfl) (by kernel_rfl) (by kernel_rfl) (by decide) (fun _ _ _ h => h) (by rfl) ?_; simp only [Act.put, List.setIfInBounds_toArray, List.set_cons_zero, List.set_cons_succ]
          refine wpAnyK_not 30 (i := 7) (fuel := 7) rfl rfl (by kernel_rfl) (by kernel_rfl) (by kernel_rfl) (by decide) (fun _ _ _ h => h) (by rfl) ?_; simp only [Act.put, List.setIfInBounds_toArray, List.set_cons_zero, List.set_cons_succ]
          refine wpAnyK_not 31 (i := 8) (fuel := 6) rfl rfl (by kernel_rfl) (by kernel_rfl) (by kernel_rfl) (by decide) (fun _ _ _ h => h) (by rfl) ?_; simp only [Act.put, List.setIfInBounds_toArray, List.set_cons_zero, List.set_cons_succ]
          refine wpAnyK_not 32 (i := 9) (fuel := 5) rfl rfl (by kernel_rfl) (by kernel_rfl) (by kernel_rfl) (by decide) (fun _ _ _ h => h) (by rfl) ?_; simp only [Act.put, List.setIfInBounds_toArray, List.set_cons_zero, List.set_cons_succ]
          refine wpAnyK_not 33 (i := 10) (fuel := 4) rfl rfl (by kernel_rfl) (by kernel_rfl) (by kernel_rfl) (by decide) (fun _ _ _ h => h) (by rfl) ?_; simp only [Act.put, List.setIfInBounds_toArray, List.set_cons_zero, List.set_cons_succ]
          refine wpAnyK_not 34 (i := 11) (fuel := 3) rfl rfl (by kernel_rfl) (by kernel_rfl) (by kernel_rfl) (by decide) (fun _ _ _ h => h) (by rfl) ?_; simp only [Act.put, List.setIfInBounds_toArray, List.set_cons_zero, List.set_cons_succ]
          refine wpAnyK_not 35 (i := 12) (fuel := 2) rfl rfl (by kernel_rfl) (by kernel_rfl) (by kernel_rfl) (by decide) (fun _ _ _ h => h) (by rfl) ?_; simp only [Act.put, List.setIfInBounds_toArray, List.set_cons_zero, List.set_cons_succ]
          refine wpAnyK_pure 36 (v := ?_) (i := 13) (fuel := 1) rfl rfl (by kernel_rfl) (by kernel_rfl) (by kernel_rfl) (by decide) (fun _ _ _ h => h) (Or.inl ⟨by rfl, fun w _ => ?_⟩) ?_; rotate_left; (go_simp; with_reducible rfl); simp only [Act.put, List.setIfInBounds_toArray, List.set_cons_zero, List.set_cons_succ]
          refine wpAnyK_pure 6 (v := ?_) (i := 14) (fuel := 0) rfl rfl (by kernel_rfl) (by kernel_rfl) (by kernel_rfl) (by decide) (fun _ _ _ h => h) (Or.inl ⟨by rfl, fun w _ => ?_⟩) ?_; rotate_left; (go_simp; with_reducible rfl); simp only [Act.put, List.setIfInBounds_toArray, List.set_cons_zero, List.set_cons_succ]
          refine wpAnyK_done (by kernel_rfl) ?_
          go_wp2_with (first | (go_at_call 60; refine (one_code (e := ⟨blind, name, kind, id, key, realm, epoch⟩) h).mono ?_; rw [HO.out]; clear h; rintro r w ⟨rfl, h⟩) | (refine wl_at 48 rfl ?_; refine wl_reads (v := .int .i64 1) rfl (ex_look1_some nmv natv h _ _ _ rfl gm rfl ⟨name, hnl⟩ rfl (v := 1) (by rw [mget_set, if_pos rfl])) ?_) | (refine wl_reads rfl (ex_loadv h _ _ rfl _ _ rfl) ?_))
          go_ret
          exact ⟨by rw [Hd.out]; rfl, h.to⟩
      · obtain ⟨j, hj⟩ : ∃ j, k = j + 1 := ⟨k - 1, by omega⟩
        have hjl : j < l.length := by omega
        obtain ⟨p, hp⟩ : ∃ p, l[j] = p := ⟨_, rfl⟩
        obtain ⟨R, hR⟩ : ∃ R, lessI p.blind e.blind = R := ⟨_, rfl⟩
        obtain ⟨C, hC⟩ : ∃ C, Lib.compareBytes p.blind.1 e.blind.1 = C := ⟨_, rfl⟩
        have HC := Lib.hid hC
        have hc0 : decide (C < 0) = R := by rw [← hC, ← hR]; exact lessI_cmp _ _
        obtain ⟨met, hmet⟩ : ∃ met, metM l k e.name = met := ⟨_, rfl⟩
        have Hm1 := Lib.hid (show mget m ⟨e.name, hnl⟩ = if met = true then some 1 else none from by rw [Hm0.out, ← hmet])
        have Hr : Hid (okM l k = (O && R && !met)) := Lib.hid (by
          subst hj
          rw [okM_succ hkl hp he, HO.out, hR, ← hmet]
          rfl)
        have hcp : ∀ {w}, Sl w (some ⟨b, off, none⟩) l.length c 100 (l.flatMap enK) → Cells w b (off + j * 100) (u8s p.blind.1) := fun hs => cells_pre (xs := u8s p.blind.1) (by
          have h5 := hs.elemAt enK_length hjl (by omega)
          rw [hp] at h5
          exact h5)
        have hpl := p.blind.2
        have Hpl := Lib.hid hpl
        have f0 : ((k : Int) == 0) = false := by simp; omega
        have f5 : (0 : Int) ≤ (j : Int) := by omega
        have f6 : (j : Int) < (l.length : Int) := by omega
        have t5 : ((j : Int)).toNat = j := by omega
        have hsm : IntKind.i64.wrap (j : Int) = (j : Int) := by rw [IntKind.wrap_i64]; omega
        have hsm2 : (k : Int) - 1 = (j : Int) := by omega
        have Hj := Lib.hid hj
        clear Hm0 Hmap hO he hj hp hR hC hmet hpl hk0
        obtain ⟨blind, name, kind, id, key, realm, epoch⟩ := e
        simp only at hnl HC
        have r1 : Row (u8s blind.1) 32 := Row.u32 blind
        have r2 : Row (u8s id.1) 32 := Row.u32 id
        have r3 : Row (u8s key.1) 32 := Row.u32 key
        cases met with
        | true =>
          have Hm : Hid (mget m ⟨name, hnl⟩ = some 1) := Lib.hid (by rw [Hm1.out]; rfl)
          have Hd := Lib.hid (dirM_no Hkl.out (Hr.out.trans (by simp)))
          clear Hm1 Hr
          cases R
          all_goals cases O
          all_goals
            go_upto_region 8 with (first | (refine wl_at 17 rfl ?_; refine wl_reads rfl (ex_load_at _ _ rfl b (off + k * 100) rfl (enK ⟨blind, name, kind, id, key, realm, epoch⟩) (enK_length _) (hcs (h.sl (some ⟨b, off, none⟩) l.length c))) ?_) | (refine wl_runs rfl (ex_alloc h 87 rfl) ?_; clear h; rintro _ w ⟨g5, rfl, h⟩) | (refine wl_runs rfl (ex_store h _ _ _ rfl _ _ rfl (enK ⟨blind, name, kind, id, key, realm, epoch⟩) rfl) ?_; clear h; rintro _ w ⟨rfl, h⟩; try dsimp only [Act.put]) | (refine wl_at 21 rfl ?_; refine wl_reads (v := .int .i64 1) rfl (ex_look1_some nmv natv h _ _ _ rfl gm rfl ⟨name, hnl⟩ rfl Hm.out) ?_) | (refine wl_runs rfl (ex_mput (kv := nmv) (vv := natv) h _ _ _ _ rfl gm rfl ⟨name, hnl⟩ rfl 2 rfl) ?_; clear h; rintro _ w ⟨rfl, h⟩; try dsimp only [Act.put]) | (refine wl_reads rfl (ex_loadv h _ _ rfl _ _ rfl) ?_))
            refine wp_region_K 15 (fun w' => St _ _ w' _) (by kernel_rfl) h.drew ?_; replace h := h.drew
            refine wpAnyK_pure 23 (v := ?_) (i := 0) (fuel := 14) rfl rfl (by kernel_rfl) (by kernel_rfl) (by kernel_rfl) (by decide) (fun _ _ _ h => h) (Or.inl ⟨by rfl, fun w _ => ?_⟩) ?_; rotate_left; (go_simp; with_reducible rfl); simp only [Act.put, List.setIfInBounds_toArray, List.set_cons_zero, List.set_cons_succ]
            refine wpAnyK_pure 24 (v := ?_) (i := 1) (fuel := 13) rfl rfl (by kernel_rfl) (by kernel_rfl) (by kernel_rfl) (by decide) (fun _ _ _ h => h) (Or.inl ⟨by rfl, fun w _ => ?_⟩) ?_; rotate_left; (go_simp; with_reducible rfl); simp only [Act.put, List.setIfInBounds_toArray, List.set_cons_zero, List.set_cons_succ]
            refine wpAnyK_pure 25 (v := ?_) (i := 2) (fuel := 12) rfl rfl (by kernel_rfl) (by kernel_rfl) (by kernel_rfl) (by decide) (fun _ _ _ h => h) (Or.inl ⟨by rfl, fun w _ => ?_⟩) ?_; rotate_left; (go_simp; with_reducible rfl); simp only [Act.put, List.setIfInBounds_toArray, List.set_cons_zero, List.set_cons_succ]
            refine wpAnyK_pure 26 (v := ?_) (i := 3) (fuel := 11) rfl rfl (by kernel_rfl) (by kernel_rfl) (by kernel_rfl) (by decide) (fun _ _ _ h => h) (Or.inl ⟨by rfl, fun w _ => ?_⟩) ?_; rotate_left; (go_simp; with_reducible rfl); simp only [Act.put, List.setIfInBounds_toArray, List.set_cons_zero, List.set_cons_succ]
            refine wpAnyK_pure 27 (v := ?_) (i := 4) (fuel := 10) rfl rfl (by kernel_rfl) (by kernel_rfl) (by kernel_rfl) (by decide) (fun _ _ _ h => h) (Or.inl ⟨by rfl, fun w _ => ?_⟩) ?_; rotate_left; (go_simp; with_reducible rfl); simp only [Act.put, List.setIfInBounds_toArray, List.set_cons_zero, List.set_cons_succ]
            refine wpAnyK_pure 28 (v := (.int .i64 (j : Int))) (i := 5) (fuel := 9) rfl rfl (by kernel_rfl) (by kernel_rfl) (by kernel_rfl) (by decide) (fun _ _ _ h => h) (Or.inl ⟨by rfl, fun w _ => (by go_simp)⟩) ?_; simp only [Act.put, List.setIfInBounds_toArray, List.set_cons_zero, List.set_cons_succ]
            refine wpAnyK_pure 29 (v := ?_) (i := 6) (fuel := 8) rfl rfl (by kernel_rfl) (by kernel_rfl) (by kernel_rfl) (by decide) (fun _ _ _ h => h) (Or.inl ⟨by rfl, fun w _ => ?_⟩) ?_; rotate_left; (go_simp; with_reducible rfl); simp only [Act.put, List.setIfInBounds_toArray, List.set_cons_zero, List.set_cons_succ]
            refine wpAnyK_pure 30 (v := ?_) (i := 7) (fuel := 7) rfl rfl (by kernel_rfl) (by kernel_rfl) (by kernel_rfl) (by decide) (fun _ _ _ h => h) (Or.inl ⟨by rfl, fun w _ => ?_⟩) ?_; rotate_left; (go_simp; with_reducible rfl); simp only [Act.put, List.setIfInBounds_toArray, List.set_cons_zero, List.set_cons_succ]
            refine wpAnyK_load 31 (i := 8) (fuel := 6) rfl rfl (by kernel_rfl) (by kernel_rfl) (by kernel_rfl) (.inr (by decide)) (by decide) (fun _ _ _ h => h) rfl (fun w h => ex_load_at _ _ rfl b (off + j * 100) rfl (u8s p.blind.1) (by rw [u8s_length, Hpl.out]) (hcp (h.sl (some ⟨b, off, none⟩) l.length c))) ?_; simp only [Act.put, List.setIfInBounds_toArray, List.set_cons_zero, List.set_cons_succ]
            refine wpAnyK_pure 32 (v := ?_) (i := 9) (fuel := 5) rfl rfl (by kernel_rfl) (by kernel_rfl) (by kernel_rfl) (by decide) (fun _ _ _ h => h) (Or.inl ⟨by rfl, fun w _ => ?_⟩) ?_; rotate_left; (go_simp; with_reducible rfl); simp only [Act.put, List.setIfInBounds_toArray, List.set_cons_zero, List.set_cons_succ]
            refine wpAnyK_load 33 (i := 10) (fuel := 4) rfl rfl (by kernel_rfl) (by kernel_rfl) (by kernel_rfl) (.inr (by decide)) (by decide) (fun _ _ _ h => h) rfl (fun w h => ex_loadv h _ _ rfl _ _ rfl) ?_; simp only [Act.put, List.setIfInBounds_toArray, List.set_cons_zero, List.set_cons_succ]
            refine wpAnyK_one (i := 11) (fuel := 3) rfl (by kernel_rfl) rfl (fun K hK => ?_)
            (go_simp; go_wp2_with (go_at_call 59; refine order_code.mono ?_; rw [HC.out]; rintro r w ⟨rfl, hs⟩; replace h := h.quiet hs; clear hs)); refine hK.out _ _ (fun _ => h.to) ?_; clear hK K
            try simp only [Act.put, List.setIfInBounds_toArray, List.set_cons_zero, List.set_cons_succ]
            refine wpAnyK_pure 35 (v := ?_) (i := 12) (fuel := 2) rfl rfl (by kernel_rfl) (by kernel_rfl) (by kernel_rfl) (by decide) (fun _ _ _ h => h) (Or.inl ⟨by rfl, fun w _ => ?_⟩) ?_; rotate_left; (go_simp; with_reducible rfl); simp only [Act.put, List.setIfInBounds_toArray, List.set_cons_zero, List.set_cons_succ]
            refine wpAnyK_pure 36 (v := ?_) (i := 13) (fuel := 1) rfl rfl (by kernel_rfl) (by kernel_rfl) (by kernel_rfl) (by decide) (fun _ _ _ h => h) (Or.inl ⟨by rfl, fun w _ => ?_⟩) ?_; rotate_left; (go_simp; with_reducible rfl); simp only [Act.put, List.setIfInBounds_toArray, List.set_cons_zero, List.set_cons_succ]
            refine wpAnyK_pure 6 (v := ?_) (i := 14) (fuel := 0) rfl rfl (by kernel_rfl) (by kernel_rfl) (by kernel_rfl) (by decide) (fun _ _ _ h => h) (Or.inl ⟨by rfl, fun w _ => ?_⟩) ?_; rotate_left; (go_simp; with_reducible rfl); simp only [Act.put, List.setIfInBounds_toArray, List.set_cons_zero, List.set_cons_succ]
            refine wpAnyK_done (by kernel_rfl) ?_
            go_wp2_with (first | (go_at_call 60; refine (one_code (e := ⟨blind, name, kind, id, key, realm, epoch⟩) h).mono ?_; rw [HO.out]; clear h; rintro r w ⟨rfl, h⟩) | (refine wl_at 48 rfl ?_; refine wl_reads (v := .int .i64 2) rfl (ex_look1_some nmv natv h _ _ _ rfl gm rfl ⟨name, hnl⟩ rfl (v := 2) (by rw [mget_set, if_pos rfl])) ?_) | (refine wl_reads rfl (ex_loadv h _ _ rfl _ _ rfl) ?_))
            go_ret
            exact ⟨by rw [Hd.out]; rfl, h.to⟩
        | false =>
          have Hm : Hid (mget m ⟨name, hnl⟩ = none) := Lib.hid (by rw [Hm1.out]; rfl)
          have Hr2 : Hid (okM l k = (O && R)) := Lib.hid (by rw [Hr.out]; simp)
          clear Hm1 Hr
          by_cases hgo : O = true ∧ R = true
          · obtain ⟨rfl, rfl⟩ := hgo
            go_upto_region 8 with (first | (refine wl_at 17 rfl ?_; refine wl_reads rfl (ex_load_at _ _ rfl b (off + k * 100) rfl (enK ⟨blind, name, kind, id, key, realm, epoch⟩) (enK_length _) (hcs (h.sl (some ⟨b, off, none⟩) l.length c))) ?_) | (refine wl_runs rfl (ex_alloc h 87 rfl) ?_; clear h; rintro _ w ⟨g5, rfl, h⟩) | (refine wl_runs rfl (ex_store h _ _ _ rfl _ _ rfl (enK ⟨blind, name, kind, id, key, realm, epoch⟩) rfl) ?_; clear h; rintro _ w ⟨rfl, h⟩; try dsimp only [Act.put]) | (refine wl_at 21 rfl ?_; refine wl_reads rfl (ex_look1_none nmv natv h _ _ _ rfl gm rfl ⟨name, hnl⟩ rfl Hm.out) ?_) | (refine wl_runs rfl (ex_mput (kv := nmv) (vv := natv) h _ _ _ _ rfl gm rfl ⟨name, hnl⟩ rfl 1 rfl) ?_; clear h; rintro _ w ⟨rfl, h⟩; try dsimp only [Act.put]) | (refine wl_reads rfl (ex_loadv h _ _ rfl _ _ rfl) ?_))
            refine wp_region_K 15 (fun w' => St _ _ w' _) (by kernel_rfl) h.drew ?_; replace h := h.drew
            refine wpAnyK_pure 23 (v := ?_) (i := 0) (fuel := 14) rfl rfl (by kernel_rfl) (by kernel_rfl) (by kernel_rfl) (by decide) (fun _ _ _ h => h) (Or.inl ⟨by rfl, fun w _ => ?_⟩) ?_; rotate_left; (go_simp; with_reducible rfl); simp only [Act.put, List.setIfInBounds_toArray, List.set_cons_zero, List.set_cons_succ]
            refine wpAnyK_pure 24 (v := ?_) (i := 1) (fuel := 13) rfl rfl (by kernel_rfl) (by kernel_rfl) (by kernel_rfl) (by decide) (fun _ _ _ h => h) (Or.inl ⟨by rfl, fun w _ => ?_⟩) ?_; rotate_left; (go_simp; with_reducible rfl); simp only [Act.put, List.setIfInBounds_toArray, List.set_cons_zero, List.set_cons_succ]
            refine wpAnyK_pure 25 (v := ?_) (i := 2) (fuel := 12) rfl rfl (by kernel_rfl) (by kernel_rfl) (by kernel_rfl) (by decide) (fun _ _ _ h => h) (Or.inl ⟨by rfl, fun w _ => ?_⟩) ?_; rotate_left; (go_simp; with_reducible rfl); simp only [Act.put, List.setIfInBounds_toArray, List.set_cons_zero, List.set_cons_succ]
            refine wpAnyK_pure 26 (v := ?_) (i := 3) (fuel := 11) rfl rfl (by kernel_rfl) (by kernel_rfl) (by kernel_rfl) (by decide) (fun _ _ _ h => h) (Or.inl ⟨by rfl, fun w _ => ?_⟩) ?_; rotate_left; (go_simp; with_reducible rfl); simp only [Act.put, List.setIfInBounds_toArray, List.set_cons_zero, List.set_cons_succ]
            refine wpAnyK_pure 27 (v := ?_) (i := 4) (fuel := 10) rfl rfl (by kernel_rfl) (by kernel_rfl) (by kernel_rfl) (by decide) (fun _ _ _ h => h) (Or.inl ⟨by rfl, fun w _ => ?_⟩) ?_; rotate_left; (go_simp; with_reducible rfl); simp only [Act.put, List.setIfInBounds_toArray, List.set_cons_zero, List.set_cons_succ]
            refine wpAnyK_pure 28 (v := (.int .i64 (j : Int))) (i := 5) (fuel := 9) rfl rfl (by kernel_rfl) (by kernel_rfl) (by kernel_rfl) (by decide) (fun _ _ _ h => h) (Or.inl ⟨by rfl, fun w _ => (by go_simp)⟩) ?_; simp only [Act.put, List.setIfInBounds_toArray, List.set_cons_zero, List.set_cons_succ]
            refine wpAnyK_pure 29 (v := ?_) (i := 6) (fuel := 8) rfl rfl (by kernel_rfl) (by kernel_rfl) (by kernel_rfl) (by decide) (fun _ _ _ h => h) (Or.inl ⟨by rfl, fun w _ => ?_⟩) ?_; rotate_left; (go_simp; with_reducible rfl); simp only [Act.put, List.setIfInBounds_toArray, List.set_cons_zero, List.set_cons_succ]
            refine wpAnyK_pure 30 (v := ?_) (i := 7) (fuel := 7) rfl rfl (by kernel_rfl) (by kernel_rfl) (by kernel_rfl) (by decide) (fun _ _ _ h => h) (Or.inl ⟨by rfl, fun w _ => ?_⟩) ?_; rotate_left; (go_simp; with_reducible rfl); simp only [Act.put, List.setIfInBounds_toArray, List.set_cons_zero, List.set_cons_succ]
            refine wpAnyK_load 31 (i := 8) (fuel := 6) rfl rfl (by kernel_rfl) (by kernel_rfl) (by kernel_rfl) (.inr (by decide)) (by decide) (fun _ _ _ h => h) rfl (fun w h => ex_load_at _ _ rfl b (off + j * 100) rfl (u8s p.blind.1) (by rw [u8s_length, Hpl.out]) (hcp (h.sl (some ⟨b, off, none⟩) l.length c))) ?_; simp only [Act.put, List.setIfInBounds_toArray, List.set_cons_zero, List.set_cons_succ]
            refine wpAnyK_pure 32 (v := ?_) (i := 9) (fuel := 5) rfl rfl (by kernel_rfl) (by kernel_rfl) (by kernel_rfl) (by decide) (fun _ _ _ h => h) (Or.inl ⟨by rfl, fun w _ => ?_⟩) ?_; rotate_left; (go_simp; with_reducible rfl); simp only [Act.put, List.setIfInBounds_toArray, List.set_cons_zero, List.set_cons_succ]
            refine wpAnyK_load 33 (i := 10) (fuel := 4) rfl rfl (by kernel_rfl) (by kernel_rfl) (by kernel_rfl) (.inr (by decide)) (by decide) (fun _ _ _ h => h) rfl (fun w h => ex_loadv h _ _ rfl _ _ rfl) ?_; simp only [Act.put, List.setIfInBounds_toArray, List.set_cons_zero, List.set_cons_succ]
            refine wpAnyK_one (i := 11) (fuel := 3) rfl (by kernel_rfl) rfl (fun K hK => ?_)
            (go_simp; go_wp2_with (go_at_call 59; refine order_code.mono ?_; rw [HC.out]; rintro r w ⟨rfl, hs⟩; replace h := h.quiet hs; clear hs)); refine hK.out _ _ (fun _ => h.to) ?_; clear hK K
            try simp only [Act.put, List.setIfInBounds_toArray, List.set_cons_zero, List.set_cons_succ]
            refine wpAnyK_pure 35 (v := ?_) (i := 12) (fuel := 2) rfl rfl (by kernel_rfl) (by kernel_rfl) (by kernel_rfl) (by decide) (fun _ _ _ h => h) (Or.inl ⟨by rfl, fun w _ => ?_⟩) ?_; rotate_left; (go_simp; with_reducible rfl); simp only [Act.put, List.setIfInBounds_toArray, List.set_cons_zero, List.set_cons_succ]
            refine wpAnyK_pure 36 (v := ?_) (i := 13) (fuel := 1) rfl rfl (by kernel_rfl) (by kernel_rfl) (by kernel_rfl) (by decide) (fun _ _ _ h => h) (Or.inl ⟨by rfl, fun w _ => ?_⟩) ?_; rotate_left; (go_simp; with_reducible rfl); simp only [Act.put, List.setIfInBounds_toArray, List.set_cons_zero, List.set_cons_succ]
            refine wpAnyK_pure 6 (v := ?_) (i := 14) (fuel := 0) rfl rfl (by kernel_rfl) (by kernel_rfl) (by kernel_rfl) (by decide) (fun _ _ _ h => h) (Or.inl ⟨by rfl, fun w _ => ?_⟩) ?_; rotate_left; (go_simp; with_reducible rfl); simp only [Act.put, List.setIfInBounds_toArray, List.set_cons_zero, List.set_cons_succ]
            refine wpAnyK_done (by kernel_rfl) ?_
            go_wp2_with (first | (go_at_call 60; refine (one_code (e := ⟨blind, name, kind, id, key, realm, epoch⟩) h).mono ?_; rw [HO.out]; clear h; rintro r w ⟨rfl, h⟩) | (refine wl_at 48 rfl ?_; refine wl_reads (v := .int .i64 1) rfl (ex_look1_some nmv natv h _ _ _ rfl gm rfl ⟨name, hnl⟩ rfl (v := 1) (by rw [mget_set, if_pos rfl])) ?_) | (refine wl_reads rfl (ex_loadv h _ _ rfl _ _ rfl) ?_))
            refine ⟨⟨k + 1, _, by push_cast; rfl, by omega, Lib.hid (fun i hi => ?_), Hnx, h.to⟩, ?_⟩
            · rcases Nat.lt_succ_iff_lt_or_eq.1 hi with h1 | rfl
              · exact Hok.out i h1
              · exact Hr2.out
            · simp only [intOf]
              omega
          · have hrr : (O && R) = false := by cases O <;> cases R <;> simp_all
            have Hd := Lib.hid (dirM_no Hkl.out (Hr2.out.trans hrr))
            clear Hr2 hrr
            cases R
            all_goals cases O
            all_goals try exact absurd ⟨rfl, rfl⟩ hgo
            all_goals clear hgo
            all_goals
              go_upto_region 8 with (first | (refine wl_at 17 rfl ?_; refine wl_reads rfl (ex_load_at _ _ rfl b (off + k * 100) rfl (enK ⟨blind, name, kind, id, key, realm, epoch⟩) (enK_length _) (hcs (h.sl (some ⟨b, off, none⟩) l.length c))) ?_) | (refine wl_runs rfl (ex_alloc h 87 rfl) ?_; clear h; rintro _ w ⟨g5, rfl, h⟩) | (refine wl_runs rfl (ex_store h _ _ _ rfl _ _ rfl (enK ⟨blind, name, kind, id, key, realm, epoch⟩) rfl) ?_; clear h; rintro _ w ⟨rfl, h⟩; try dsimp only [Act.put]) | (refine wl_at 21 rfl ?_; refine wl_reads rfl (ex_look1_none nmv natv h _ _ _ rfl gm rfl ⟨name, hnl⟩ rfl Hm.out) ?_) | (refine wl_runs rfl (ex_mput (kv := nmv) (vv := natv) h _ _ _ _ rfl gm rfl ⟨name, hnl⟩ rfl 1 rfl) ?_; clear h; rintro _ w ⟨rfl, h⟩; try dsimp only [Act.put]) | (refine wl_reads rfl (ex_loadv h _ _ rfl _ _ rfl) ?_))
              refine wp_region_K 15 (fun w' => St _ _ w' _) (by kernel_rfl) h.drew ?_; replace h := h.drew
              refine wpAnyK_pure 23 (v := ?_) (i := 0) (fuel := 14) rfl rfl (by kernel_rfl) (by kernel_rfl) (by kernel_rfl) (by decide) (fun _ _ _ h => h) (Or.inl ⟨by rfl, fun w _ => ?_⟩) ?_; rotate_left; (go_simp; with_reducible rfl); simp only [Act.put, List.setIfInBounds_toArray, List.set_cons_zero, List.set_cons_succ]
              refine wpAnyK_pure 24 (v := ?_) (i := 1) (fuel := 13) rfl rfl (by kernel_rfl) (by kernel_rfl) (by kernel_rfl) (by decide) (fun _ _ _ h => h) (Or.inl ⟨by rfl, fun w _ => ?_⟩) ?_; rotate_left; (go_simp; with_reducible rfl); simp only [Act.put, List.setIfInBounds_toArray, List.set_cons_zero, List.set_cons_succ]
              refine wpAnyK_pure 25 (v := ?_) (i := 2) (fuel := 12) rfl rfl (by kernel_rfl) (by kernel_rfl) (by kernel_rfl) (by decide) (fun _ _ _ h => h) (Or.inl ⟨by rfl, fun w _ => ?_⟩) ?_; rotate_left; (go_simp; with_reducible rfl); simp only [Act.put, List.setIfInBounds_toArray, List.set_cons_zero, List.set_cons_succ]
              refine wpAnyK_pure 26 (v := ?_) (i := 3) (fuel := 11) rfl rfl (by kernel_rfl) (by kernel_rfl) (by kernel_rfl) (by decide) (fun _ _ _ h => h) (Or.inl ⟨by rfl, fun w _ => ?_⟩) ?_; rotate_left; (go_simp; with_reducible rfl); simp only [Act.put, List.setIfInBounds_toArray, List.set_cons_zero, List.set_cons_succ]
              refine wpAnyK_pure 27 (v := ?_) (i := 4) (fuel := 10) rfl rfl (by kernel_rfl) (by kernel_rfl) (by kernel_rfl) (by decide) (fun _ _ _ h => h) (Or.inl ⟨by rfl, fun w _ => ?_⟩) ?_; rotate_left; (go_simp; with_reducible rfl); simp only [Act.put, List.setIfInBounds_toArray, List.set_cons_zero, List.set_cons_succ]
              refine wpAnyK_pure 28 (v := (.int .i64 (j : Int))) (i := 5) (fuel := 9) rfl rfl (by kernel_rfl) (by kernel_rfl) (by kernel_rfl) (by decide) (fun _ _ _ h => h) (Or.inl ⟨by rfl, fun w _ => (by go_simp)⟩) ?_; simp only [Act.put, List.setIfInBounds_toArray, List.set_cons_zero, List.set_cons_succ]
              refine wpAnyK_pure 29 (v := ?_) (i := 6) (fuel := 8) rfl rfl (by kernel_rfl) (by kernel_rfl) (by kernel_rfl) (by decide) (fun _ _ _ h => h) (Or.inl ⟨by rfl, fun w _ => ?_⟩) ?_; rotate_left; (go_simp; with_reducible rfl); simp only [Act.put, List.setIfInBounds_toArray, List.set_cons_zero, List.set_cons_succ]
              refine wpAnyK_pure 30 (v := ?_) (i := 7) (fuel := 7) rfl rfl (by kernel_rfl) (by kernel_rfl) (by kernel_rfl) (by decide) (fun _ _ _ h => h) (Or.inl ⟨by rfl, fun w _ => ?_⟩) ?_; rotate_left; (go_simp; with_reducible rfl); simp only [Act.put, List.setIfInBounds_toArray, List.set_cons_zero, List.set_cons_succ]
              refine wpAnyK_load 31 (i := 8) (fuel := 6) rfl rfl (by kernel_rfl) (by kernel_rfl) (by kernel_rfl) (.inr (by decide)) (by decide) (fun _ _ _ h => h) rfl (fun w h => ex_load_at _ _ rfl b (off + j * 100) rfl (u8s p.blind.1) (by rw [u8s_length, Hpl.out]) (hcp (h.sl (some ⟨b, off, none⟩) l.length c))) ?_; simp only [Act.put, List.setIfInBounds_toArray, List.set_cons_zero, List.set_cons_succ]
              refine wpAnyK_pure 32 (v := ?_) (i := 9) (fuel := 5) rfl rfl (by kernel_rfl) (by kernel_rfl) (by kernel_rfl) (by decide) (fun _ _ _ h => h) (Or.inl ⟨by rfl, fun w _ => ?_⟩) ?_; rotate_left; (go_simp; with_reducible rfl); simp only [Act.put, List.setIfInBounds_toArray, List.set_cons_zero, List.set_cons_succ]
              refine wpAnyK_load 33 (i := 10) (fuel := 4) rfl rfl (by kernel_rfl) (by kernel_rfl) (by kernel_rfl) (.inr (by decide)) (by decide) (fun _ _ _ h => h) rfl (fun w h => ex_loadv h _ _ rfl _ _ rfl) ?_; simp only [Act.put, List.setIfInBounds_toArray, List.set_cons_zero, List.set_cons_succ]
              refine wpAnyK_one (i := 11) (fuel := 3) rfl (by kernel_rfl) rfl (fun K hK => ?_)
              (go_simp; go_wp2_with (go_at_call 59; refine order_code.mono ?_; rw [HC.out]; rintro r w ⟨rfl, hs⟩; replace h := h.quiet hs; clear hs)); refine hK.out _ _ (fun _ => h.to) ?_; clear hK K
              try simp only [Act.put, List.setIfInBounds_toArray, List.set_cons_zero, List.set_cons_succ]
              refine wpAnyK_pure 35 (v := ?_) (i := 12) (fuel := 2) rfl rfl (by kernel_rfl) (by kernel_rfl) (by kernel_rfl) (by decide) (fun _ _ _ h => h) (Or.inl ⟨by rfl, fun w _ => ?_⟩) ?_; rotate_left; (go_simp; with_reducible rfl); simp only [Act.put, List.setIfInBounds_toArray, List.set_cons_zero, List.set_cons_succ]
              refine wpAnyK_pure 36 (v := ?_) (i := 13) (fuel := 1) rfl rfl (by kernel_rfl) (by kernel_rfl) (by kernel_rfl) (by decide) (fun _ _ _ h => h) (Or.inl ⟨by rfl, fun w _ => ?_⟩) ?_; rotate_left; (go_simp; with_reducible rfl); simp only [Act.put, List.setIfInBounds_toArray, List.set_cons_zero, List.set_cons_succ]
              refine wpAnyK_pure 6 (v := ?_) (i := 14) (fuel := 0) rfl rfl (by kernel_rfl) (by kernel_rfl) (by kernel_rfl) (by decide) (fun _ _ _ h => h) (Or.inl ⟨by rfl, fun w _ => ?_⟩) ?_; rotate_left; (go_simp; with_reducible rfl); simp only [Act.put, List.setIfInBounds_toArray, List.set_cons_zero, List.set_cons_succ]
              refine wpAnyK_done (by kernel_rfl) ?_
              go_wp2_with (first | (go_at_call 60; refine (one_code (e := ⟨blind, name, kind, id, key, realm, epoch⟩) h).mono ?_; rw [HO.out]; clear h; rintro r w ⟨rfl, h⟩) | (refine wl_at 48 rfl ?_; refine wl_reads (v := .int .i64 1) rfl (ex_look1_some nmv natv h _ _ _ rfl gm rfl ⟨name, hnl⟩ rfl (v := 1) (by rw [mget_set, if_pos rfl])) ?_) | (refine wl_reads rfl (ex_loadv h _ _ rfl _ _ rfl) ?_))
              go_ret
              exact ⟨by rw [Hd.out]; rfl, h.to⟩
    · obtain rfl : k = l.length := by omega
      have Hd := Lib.hid (dirM_yes (l := l) (by omega) Hok.out)
      have hkk : ¬ ((l.length : Int) < (l.length : Int)) := by omega
      clear hkl
      go_wp2
      go_ret
      exact ⟨by rw [Hd.out]; rfl, h.to⟩
end Go.Proofs.Ytnokgejmlpmgfaa
