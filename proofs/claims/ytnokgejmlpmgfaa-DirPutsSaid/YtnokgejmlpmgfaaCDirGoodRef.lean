/- The reference's GoodDir. -/
import Derived.Test.YtnokgejmlpmgfaaCDirGood2
import Derived.Test.YtnokgejmlpmgfaaCGoodRef
import Derived.Test.YtnokgejmlpmgfaaCB1
namespace Go.Proofs.Ytnokgejmlpmgfaa
open Go.RowKit
set_option linter.unusedVariables false
set_option linter.unusedSimpArgs false

/-- A round's first half: the entry at k is none. -/
theorem dirM_one {l : List En} {k : Nat} {e : En} (hk : k < l.length) (he : l[k] = e) (h : oneM e = false) : dirM l = false := dirM_no hk (by
  cases k with
  | zero => rw [okM_zero hk he, h]
  | succ j => rw [okM_succ (p := l[j]) hk rfl he, h]; rfl)
theorem dirM_met {l : List En} {k q : Nat} {e x : En} (hk : k < l.length) (he : l[k] = e) (hq : q < k) (hx : l[q]'(by omega) = x) (h : x.name = e.name) : dirM l = false := dirM_no hk (by
  cases k with
  | zero => omega
  | succ j =>
    rw [okM_succ (p := l[j]) hk rfl he]
    have : ((l.take (j + 1)).any fun x => x.name == e.name) = true := List.any_eq_true.2 ⟨x, by rw [← hx]; exact List.mem_take_iff_getElem.2 ⟨q, by omega, rfl⟩, by simp [h]⟩
    rw [this]
    simp)
theorem dirM_order {l : List En} {j : Nat} {e p : En} (hk : j + 1 < l.length) (he : l[j + 1] = e) (hp : l[j] = p) (h : lessM p.blind.1 e.blind.1 = false) : dirM l = false := dirM_no hk (by
  rw [okM_succ hk hp he]
  have : lessI p.blind e.blind = false := h
  rw [this]
  simp)
theorem okM_good {l : List En} {k : Nat} {e : En} (hk : k < l.length) (he : l[k] = e) (h1 : oneM e = true) (h2 : ∀ j p, j + 1 = k → l[j]? = some p → lessM p.blind.1 e.blind.1 = true) (h3 : metM l k e.name = false) : okM l k = true := by
  cases k with
  | zero => rw [okM_zero hk he, h1]
  | succ j =>
    rw [okM_succ (p := l[j]) hk rfl he, h1]
    have : lessI l[j].blind e.blind = true := h2 j l[j] rfl (List.getElem?_eq_getElem (by omega))
    rw [this]
    have h3' : ((l.take (j + 1)).any fun x => x.name == e.name) = false := h3
    rw [h3']
    rfl
set_option maxRecDepth 100000 in
set_option maxHeartbeats 4000000 in
theorem dir_good_ref {S : Nat → Prop} {w0 w : World} {L : List Ent} {A : Option Addr} {c : Nat} {l : List En} (h : St S w0 w L) [ka : HasSl L A l.length c 100 (l.flatMap enK)] (hnm : ∀ e ∈ l, e.name.length ≤ 1000000) :
    Calls Try.prog 18 #[.slice A l.length c] w fun r w' => r = .returned (.bool (dirM l)) ∧ St S w0 w' L := by
  by_cases c1 : 500 < l.length
  · have Hd := Lib.hid (dirM_long c1)
    go_enter Try.func18, Try.ntmps18
    go_wp2
    go_ret
    exact ⟨by rw [Hd.out]; rfl, h⟩
  have hcap := (h.sl A l.length c).le
  have Hnm := Lib.hid hnm
  clear hnm
  go_enter Try.func18, Try.ntmps18
  go_wp2
  go_loopw [12] (fun iv wr => ∃ k : Nat, iv = .int .i64 (k : Int) ∧ k ≤ l.length ∧ Hid (∀ j, j < k → okM l j = true) ∧ St S w0 wr L) (fun iv _ => l.length - (intOf iv).toNat)
  case atStart => exact ⟨0, rfl, Nat.zero_le _, Lib.hid (fun j hj => by omega), h⟩
  case round =>
    clear h
    obtain ⟨k, rfl, hk, Hok, h⟩ := hrel
    by_cases hkl : k < l.length
    · have f2 : (k : Int) < (l.length : Int) := by omega
      have t1 : ((k : Int)).toNat = k := by omega
      obtain ⟨e, he⟩ : ∃ e, l[k] = e := ⟨_, rfl⟩
      have hnl : e.name.length ≤ 1000000 := Hnm.out e (by rw [← he]; exact List.getElem_mem _)
      obtain ⟨b, off, rfl, _⟩ := (h.sl A l.length c).pos (by omega)
      have hcs : ∀ {w}, Sl w (some ⟨b, off, none⟩) l.length c 100 (l.flatMap enK) → Cells w b (off + k * 100) (enK e) := fun hs => by rw [← he]; exact hs.elemAt enK_length hkl (by omega)
      have Hkl := Lib.hid hkl
      have He := Lib.hid he
      obtain ⟨G, hG⟩ : ∃ G, goodM e.name = G := ⟨_, rfl⟩
      have HG := Lib.hid hG
      obtain ⟨blind, name, kind, id, key, realm, epoch⟩ := e
      simp only at hnl HG hG
      have r1 : Row (u8s blind.1) 32 := Row.u32 blind
      have r2 : Row (u8s id.1) 32 := Row.u32 id
      have r3 : Row (u8s key.1) 32 := Row.u32 key
      clear he
      cases G with
      | false =>
        have ho : oneM ⟨blind, name, kind, id, key, realm, epoch⟩ = false := by unfold oneM; simp only [hG, Bool.and_false]
        have Hd : Hid (dirM l = false) := Lib.hid (dirM_one hkl He.out ho)
        clear ho hG
        go_wp2_with (first | (refine wl_at 16 rfl ?_; refine wl_reads rfl (ex_load_at _ _ rfl b (off + k * 100) rfl (enK ⟨blind, name, kind, id, key, realm, epoch⟩) (enK_length _) (hcs (h.sl (some ⟨b, off, none⟩) l.length c))) ?_) | (refine wl_at 4 rfl ?_; refine wl_runs rfl (ex_alloc h 87 rfl) ?_; clear h; rintro _ w ⟨g4, rfl, h⟩) | (refine wl_none rfl ?_; refine wl_runs rfl (ex_store h _ _ _ rfl _ _ rfl (enK ⟨blind, name, kind, id, key, realm, epoch⟩) rfl) ?_; clear h; rintro _ w ⟨rfl, h⟩; try dsimp only [Act.put]) | (go_at_call 38; refine (good_ref (l := name) (by omega)).mono ?_; rw [HG.out]; rintro r w ⟨rfl, rfl⟩; go_wp2) | (refine wl_at 18 rfl ?_; refine wl_reads rfl (ex_loadv h _ _ rfl _ _ rfl) ?_))
        go_ret
        exact ⟨by rw [Hd.out]; rfl, h.to⟩
      | true =>
        by_cases hkd : kind = 1 ∨ kind = 2 ∨ kind = 4
        · have Ho : Hid (oneM ⟨blind, name, kind, id, key, realm, epoch⟩ = true) := Lib.hid (by unfold oneM; rcases hkd with rfl | rfl | rfl <;> simp [hG])
          have hkk : (kind != 1) = false ∨ ((kind != 1) = true ∧ (kind != 2) = false) ∨ ((kind != 1) = true ∧ (kind != 2) = true ∧ (kind != 4) = false) := by rcases hkd with rfl | rfl | rfl <;> simp
          have f9 : (k : Int) ≤ (c : Int) := by omega
          have f10 : (0 : Int) ≤ (k : Int) := by omega
          clear hG hkd
          by_cases hk0 : k = 0
          · have f1 : decide ((0 : Int) < (k : Int)) = false := by simp; omega
            have f1n : decide (0 < k) = false := by simp; omega
            have Hord : Hid (∀ j p, j + 1 = k → l[j]? = some p → lessM p.blind.1 blind.1 = true) := Lib.hid (fun j p hj => by omega)
            have Hk0 := Lib.hid hk0
            clear hk0
            rcases hkk with h1 | ⟨h1, h2⟩ | ⟨h1, h2, h4⟩
            all_goals
              go_upto_region 8 with (first | (refine wl_at 16 rfl ?_; refine wl_reads rfl (ex_load_at _ _ rfl b (off + k * 100) rfl (enK ⟨blind, name, kind, id, key, realm, epoch⟩) (enK_length _) (hcs (h.sl (some ⟨b, off, none⟩) l.length c))) ?_) | (refine wl_at 4 rfl ?_; refine wl_runs rfl (ex_alloc h 87 rfl) ?_; clear h; rintro _ w ⟨g4, rfl, h⟩) | (refine wl_none rfl ?_; refine wl_runs rfl (ex_store h _ _ _ rfl _ _ rfl (enK ⟨blind, name, kind, id, key, realm, epoch⟩) rfl) ?_; clear h; rintro _ w ⟨rfl, h⟩; try dsimp only [Act.put]) | (go_at_call 38; refine (good_ref (l := name) (by omega)).mono ?_; rw [HG.out]; rintro r w ⟨rfl, rfl⟩) | (refine wl_at 18 rfl ?_; refine wl_reads rfl (ex_loadv h _ _ rfl _ _ rfl) ?_) | (refine wl_at 23 rfl ?_; refine wl_reads rfl (ex_loadv h _ _ rfl _ _ rfl) ?_) | (refine wl_at 27 rfl ?_; refine wl_reads rfl (ex_loadv h _ _ rfl _ _ rfl) ?_) | (refine wl_at 32 rfl ?_; refine wl_reads rfl (ex_loadv h _ _ rfl _ _ rfl) ?_))
              refine wp_region_K 14 (fun w' => St _ _ w' _) (by kernel_rfl) h.drew ?_; replace h := h.drew
              refine wpAnyK_pure 36 (v := ?_) (i := 0) (fuel := 13) rfl rfl (by kernel_rfl) (by kernel_rfl) (by kernel_rfl) (by decide) (fun _ _ _ h => h) (Or.inl ⟨by rfl, fun w _ => ?_⟩) ?_; rotate_left; (go_simp; with_reducible rfl); simp only [Act.put, List.setIfInBounds_toArray, List.set_cons_zero, List.set_cons_succ]
              refine wpAnyK_pure 37 (v := (.bool false)) (i := 1) (fuel := 12) rfl rfl (by kernel_rfl) (by kernel_rfl) (by kernel_rfl) (by decide) (fun _ _ _ h => h) (Or.inl ⟨by rfl, fun w _ => (by go_simp)⟩) ?_; simp only [Act.put, List.setIfInBounds_toArray, List.set_cons_zero, List.set_cons_succ]
              refine wpAnyK_pure 38 (v := ?_) (i := 2) (fuel := 11) rfl rfl (by kernel_rfl) (by kernel_rfl) (by kernel_rfl) (by decide) (fun _ _ _ h => h) (Or.inl ⟨by rfl, fun w _ => ?_⟩) ?_; rotate_left; (go_simp; with_reducible rfl); simp only [Act.put, List.setIfInBounds_toArray, List.set_cons_zero, List.set_cons_succ]
              refine wpAnyK_not 39 (i := 3) (fuel := 10) rfl rfl (by kernel_rfl) (by kernel_rfl) (by kernel_rfl) (by decide) (fun _ _ _ h => h) (by rfl) ?_; simp only [Act.put, List.setIfInBounds_toArray, List.set_cons_zero, List.set_cons_succ]
              refine wpAnyK_not 40 (i := 4) (fuel := 9) rfl rfl (by kernel_rfl) (by kernel_rfl) (by kernel_rfl) (by decide) (fun _ _ _ h => h) (by rfl) ?_; simp only [Act.put, List.setIfInBounds_toArray, List.set_cons_zero, List.set_cons_succ]
              refine wpAnyK_not 41 (i := 5) (fuel := 8) rfl rfl (by kernel_rfl) (by kernel_rfl) (by kernel_rfl) (by decide) (fun _ _ _ h => h) (by rfl) ?_; simp only [Act.put, List.setIfInBounds_toArray, List.set_cons_zero, List.set_cons_succ]
              refine wpAnyK_not 42 (i := 6) (fuel := 7) rfl rfl (by kernel_rfl) (by kernel_rfl) (by kernel_rfl) (by decide) (fun _ _ _ h => h) (by rfl) ?_; simp only [Act.put, List.setIfInBounds_toArray, List.set_cons_zero, List.set_cons_succ]
              refine wpAnyK_not 43 (i := 7) (fuel := 6) rfl rfl (by kernel_rfl) (by kernel_rfl) (by kernel_rfl) (by decide) (fun _ _ _ h => h) (by rfl) ?_; simp only [Act.put, List.setIfInBounds_toArray, List.set_cons_zero, List.set_cons_succ]
              refine wpAnyK_not 44 (i := 8) (fuel := 5) rfl rfl (by kernel_rfl) (by kernel_rfl) (by kernel_rfl) (by decide) (fun _ _ _ h => h) (by rfl) ?_; simp only [Act.put, List.setIfInBounds_toArray, List.set_cons_zero, List.set_cons_succ]
              refine wpAnyK_not 45 (i := 9) (fuel := 4) rfl rfl (by kernel_rfl) (by kernel_rfl) (by kernel_rfl) (by decide) (fun _ _ _ h => h) (by rfl) ?_; simp only [Act.put, List.setIfInBounds_toArray, List.set_cons_zero, List.set_cons_succ]
              refine wpAnyK_not 46 (i := 10) (fuel := 3) rfl rfl (by kernel_rfl) (by kernel_rfl) (by kernel_rfl) (by decide) (fun _ _ _ h => h) (by rfl) ?_; simp only [Act.put, List.setIfInBounds_toArray, List.set_cons_zero, List.set_cons_succ]
              refine wpAnyK_not 47 (i := 11) (fuel := 2) rfl rfl (by kernel_rfl) (by kernel_rfl) (by kernel_rfl) (by decide) (fun _ _ _ h => h) (by rfl) ?_; simp only [Act.put, List.setIfInBounds_toArray, List.set_cons_zero, List.set_cons_succ]
              refine wpAnyK_not 48 (i := 12) (fuel := 1) rfl rfl (by kernel_rfl) (by kernel_rfl) (by kernel_rfl) (by decide) (fun _ _ _ h => h) (by rfl) ?_; simp only [Act.put, List.setIfInBounds_toArray, List.set_cons_zero, List.set_cons_succ]
              refine wpAnyK_pure 49 (v := ?_) (i := 13) (fuel := 0) rfl rfl (by kernel_rfl) (by kernel_rfl) (by kernel_rfl) (by decide) (fun _ _ _ h => h) (Or.inl ⟨by rfl, fun w _ => ?_⟩) ?_; rotate_left; (go_simp; with_reducible rfl); simp only [Act.put, List.setIfInBounds_toArray, List.set_cons_zero, List.set_cons_succ]
              refine wpAnyK_done (by kernel_rfl) ?_
              go_wp2
              go_loopw [54] (fun iv wr => ∃ q : Nat, iv = .int .i64 (q : Int) ∧ q ≤ k ∧ Hid (metM l q name = false) ∧ St S w0 wr (eBlk g4 87 (enK ⟨blind, name, kind, id, key, realm, epoch⟩) :: L)) (fun iv _ => k - (intOf iv).toNat)
              case atStart => exact ⟨0, rfl, Nat.zero_le _, Lib.hid (metM_zero _ _), h.to⟩
              case round =>
                clear h
                obtain ⟨q, rfl, hq, Hmet, h⟩ := hrel
                by_cases hqk : q < k
                · have f8 : (q : Int) < (k : Int) := by omega
                  have t8 : ((q : Int)).toNat = q := by omega
                  have f7 : (q : Int) < (l.length : Int) := by omega
                  obtain ⟨x, hx⟩ : ∃ x, l[q]'(by omega) = x := ⟨_, rfl⟩
                  have hcx : ∀ {w}, Sl w (some ⟨b, off, none⟩) l.length c 100 (l.flatMap enK) → Cells w b (off + q * 100) (enK x) := fun hs => by rw [← hx]; exact hs.elemAt enK_length (by omega) (by omega)
                  have Hcx : Hid (∀ w, Sl w (some ⟨b, off, none⟩) l.length c 100 (l.flatMap enK) → Cells w b (off + q * 100) (enK x)) := Lib.hid (fun w hs => hcx hs)
                  have Hx := Lib.hid hx
                  obtain ⟨B, hB⟩ : ∃ B, (x.name == name) = B := ⟨_, rfl⟩
                  have hst : ((str x.name).toList == (str name).toList) = B := by rw [str_toList, str_toList]; exact hB
                  have HB := Lib.hid hB
                  obtain ⟨xb, xn, xk, xi, xy, xr, xe⟩ := x
                  simp only at HB hst
                  have r4 : Row (u8s xb.1) 32 := Row.u32 xb
                  have r5 : Row (u8s xi.1) 32 := Row.u32 xi
                  have r6 : Row (u8s xy.1) 32 := Row.u32 xy
                  clear hcx hx hB
                  cases B
                  · have Hmn : Hid (metM l (q + 1) name = false) := Lib.hid (by rw [metM_succ (by omega) Hx.out, Hmet.out, HB.out]; rfl)
                    go_wp2_with (first | (refine wl_at 57 rfl ?_; refine wl_reads rfl (ex_load_at _ _ rfl b (off + q * 100) rfl (enK ⟨xb, xn, xk, xi, xy, xr, xe⟩) (enK_length _) (Hcx.out _ (h.sl (some ⟨b, off, none⟩) l.length c))) ?_) | (refine wl_at 6 rfl ?_; refine wl_runs rfl (ex_alloc h 87 rfl) ?_; clear h; rintro _ w ⟨g6, rfl, h⟩) | (refine wl_none rfl ?_; refine wl_runs rfl (ex_store h _ _ _ rfl _ _ rfl (enK ⟨xb, xn, xk, xi, xy, xr, xe⟩) rfl) ?_; clear h; rintro _ w ⟨rfl, h⟩; try dsimp only [Act.put]) | (refine wl_at 59 rfl ?_; refine wl_reads rfl (ex_loadv h _ _ rfl _ _ rfl) ?_) | (refine wl_at 61 rfl ?_; refine wl_reads rfl (ex_loadv h _ _ rfl _ _ rfl) ?_))
                    refine ⟨⟨q + 1, by push_cast; rfl, by omega, Hmn, h.to⟩, ?_⟩
                    simp only [intOf]
                    omega
                  · have Hd := Lib.hid (dirM_met Hkl.out He.out hqk Hx.out (by simpa using HB.out))
                    go_wp2_with (first | (refine wl_at 57 rfl ?_; refine wl_reads rfl (ex_load_at _ _ rfl b (off + q * 100) rfl (enK ⟨xb, xn, xk, xi, xy, xr, xe⟩) (enK_length _) (Hcx.out _ (h.sl (some ⟨b, off, none⟩) l.length c))) ?_) | (refine wl_at 6 rfl ?_; refine wl_runs rfl (ex_alloc h 87 rfl) ?_; clear h; rintro _ w ⟨g6, rfl, h⟩) | (refine wl_none rfl ?_; refine wl_runs rfl (ex_store h _ _ _ rfl _ _ rfl (enK ⟨xb, xn, xk, xi, xy, xr, xe⟩) rfl) ?_; clear h; rintro _ w ⟨rfl, h⟩; try dsimp only [Act.put]) | (refine wl_at 59 rfl ?_; refine wl_reads rfl (ex_loadv h _ _ rfl _ _ rfl) ?_) | (refine wl_at 61 rfl ?_; refine wl_reads rfl (ex_loadv h _ _ rfl _ _ rfl) ?_))
                    go_ret
                    exact ⟨by rw [Hd.out]; rfl, h.to⟩
                · obtain rfl : q = k := by omega
                  have Hr := Lib.hid (okM_good Hkl.out He.out Ho.out Hord.out Hmet.out)
                  have hqq : ¬ ((q : Int) < (q : Int)) := by omega
                  clear hqk
                  go_wp2
                  refine ⟨⟨q + 1, by push_cast; rfl, by omega, Lib.hid (fun i hi => ?_), h.to⟩, ?_⟩
                  · rcases Nat.lt_succ_iff_lt_or_eq.1 hi with h1 | rfl
                    · exact Hok.out i h1
                    · exact Hr.out
                  · simp only [intOf]
                    omega
          · obtain ⟨j, hj⟩ : ∃ j, k = j + 1 := ⟨k - 1, by omega⟩
            have hjl : j < l.length := by omega
            obtain ⟨p, hp⟩ : ∃ p, l[j] = p := ⟨_, rfl⟩
            obtain ⟨R, hR⟩ : ∃ R, lessM p.blind.1 blind.1 = R := ⟨_, rfl⟩
            have HR := Lib.hid hR
            have Hp := Lib.hid hp
            have Hj := Lib.hid hj
            have f1 : decide ((0 : Int) < (k : Int)) = true := by simp; omega
            have f1n : decide (0 < k) = true := by simp; omega
            have hcp : ∀ {w}, Sl w (some ⟨b, off, none⟩) l.length c 100 (l.flatMap enK) → Cells w b (off + j * 100) (u8s p.blind.1) := fun hs => cells_pre (xs := u8s p.blind.1) (by
              have h5 := hs.elemAt enK_length hjl (by omega)
              rw [hp] at h5
              exact h5)
            have Hcp : Hid (∀ w, Sl w (some ⟨b, off, none⟩) l.length c 100 (l.flatMap enK) → Cells w b (off + j * 100) (u8s p.blind.1)) := Lib.hid (fun w hs => hcp hs)
            have hpl := p.blind.2
            have Hpl := Lib.hid hpl
            have hsm : IntKind.i64.wrap (j : Int) = (j : Int) := by rw [IntKind.wrap_i64]; omega
            have hsm2 : (k : Int) - 1 = (j : Int) := by omega
            have f5 : (0 : Int) ≤ (j : Int) := by omega
            have f6 : (j : Int) < (l.length : Int) := by omega
            have t5 : ((j : Int)).toNat = j := by omega
            have r7 : Row (u8s p.blind.1) 32 := Row.u32 p.blind
            clear hk0 hp hR hcp hpl hj
            cases R with
            | false =>
              have Hd : Hid (dirM l = false) := Lib.hid (by
                have h1 := Hkl.out; have h2 := He.out; have h3 := Hj.out; subst h3
                exact dirM_order h1 h2 Hp.out HR.out)
              rcases hkk with h1 | ⟨h1, h2⟩ | ⟨h1, h2, h4⟩
              all_goals
                go_upto_region 8 with (first | (refine wl_at 16 rfl ?_; refine wl_reads rfl (ex_load_at _ _ rfl b (off + k * 100) rfl (enK ⟨blind, name, kind, id, key, realm, epoch⟩) (enK_length _) (hcs (h.sl (some ⟨b, off, none⟩) l.length c))) ?_) | (refine wl_at 4 rfl ?_; refine wl_runs rfl (ex_alloc h 87 rfl) ?_; clear h; rintro _ w ⟨g4, rfl, h⟩) | (refine wl_none rfl ?_; refine wl_runs rfl (ex_store h _ _ _ rfl _ _ rfl (enK ⟨blind, name, kind, id, key, realm, epoch⟩) rfl) ?_; clear h; rintro _ w ⟨rfl, h⟩; try dsimp only [Act.put]) | (go_at_call 38; refine (good_ref (l := name) (by omega)).mono ?_; rw [HG.out]; rintro r w ⟨rfl, rfl⟩) | (refine wl_at 18 rfl ?_; refine wl_reads rfl (ex_loadv h _ _ rfl _ _ rfl) ?_) | (refine wl_at 23 rfl ?_; refine wl_reads rfl (ex_loadv h _ _ rfl _ _ rfl) ?_) | (refine wl_at 27 rfl ?_; refine wl_reads rfl (ex_loadv h _ _ rfl _ _ rfl) ?_) | (refine wl_at 32 rfl ?_; refine wl_reads rfl (ex_loadv h _ _ rfl _ _ rfl) ?_))
                refine wp_region_K 14 (fun w' => St _ _ w' _) (by kernel_rfl) h.drew ?_; replace h := h.drew
                refine wpAnyK_pure 36 (v := ?_) (i := 0) (fuel := 13) rfl rfl (by kernel_rfl) (by kernel_rfl) (by kernel_rfl) (by decide) (fun _ _ _ h => h) (Or.inl ⟨by rfl, fun w _ => ?_⟩) ?_; rotate_left; (go_simp; with_reducible rfl); simp only [Act.put, List.setIfInBounds_toArray, List.set_cons_zero, List.set_cons_succ]
                refine wpAnyK_pure 37 (v := (.bool true)) (i := 1) (fuel := 12) rfl rfl (by kernel_rfl) (by kernel_rfl) (by kernel_rfl) (by decide) (fun _ _ _ h => h) (Or.inl ⟨by rfl, fun w _ => (by go_simp)⟩) ?_; simp only [Act.put, List.setIfInBounds_toArray, List.set_cons_zero, List.set_cons_succ]
                refine wpAnyK_pure 38 (v := ?_) (i := 2) (fuel := 11) rfl rfl (by kernel_rfl) (by kernel_rfl) (by kernel_rfl) (by decide) (fun _ _ _ h => h) (Or.inl ⟨by rfl, fun w _ => ?_⟩) ?_; rotate_left; (go_simp; with_reducible rfl); simp only [Act.put, List.setIfInBounds_toArray, List.set_cons_zero, List.set_cons_succ]
                refine wpAnyK_pure 39 (v := ?_) (i := 3) (fuel := 10) rfl rfl (by kernel_rfl) (by kernel_rfl) (by kernel_rfl) (by decide) (fun _ _ _ h => h) (Or.inl ⟨by rfl, fun w _ => ?_⟩) ?_; rotate_left; (go_simp; with_reducible rfl); simp only [Act.put, List.setIfInBounds_toArray, List.set_cons_zero, List.set_cons_succ]
                refine wpAnyK_pure 40 (v := ?_) (i := 4) (fuel := 9) rfl rfl (by kernel_rfl) (by kernel_rfl) (by kernel_rfl) (by decide) (fun _ _ _ h => h) (Or.inl ⟨by rfl, fun w _ => ?_⟩) ?_; rotate_left; (go_simp; with_reducible rfl); simp only [Act.put, List.setIfInBounds_toArray, List.set_cons_zero, List.set_cons_succ]
                refine wpAnyK_pure 41 (v := (.int .i64 (j : Int))) (i := 5) (fuel := 8) rfl rfl (by kernel_rfl) (by kernel_rfl) (by kernel_rfl) (by decide) (fun _ _ _ h => h) (Or.inl ⟨by rfl, fun w _ => (by go_simp)⟩) ?_; simp only [Act.put, List.setIfInBounds_toArray, List.set_cons_zero, List.set_cons_succ]
                refine wpAnyK_pure 42 (v := ?_) (i := 6) (fuel := 7) rfl rfl (by kernel_rfl) (by kernel_rfl) (by kernel_rfl) (by decide) (fun _ _ _ h => h) (Or.inl ⟨by rfl, fun w _ => ?_⟩) ?_; rotate_left; (go_simp; with_reducible rfl); simp only [Act.put, List.setIfInBounds_toArray, List.set_cons_zero, List.set_cons_succ]
                refine wpAnyK_pure 43 (v := ?_) (i := 7) (fuel := 6) rfl rfl (by kernel_rfl) (by kernel_rfl) (by kernel_rfl) (by decide) (fun _ _ _ h => h) (Or.inl ⟨by rfl, fun w _ => ?_⟩) ?_; rotate_left; (go_simp; with_reducible rfl); simp only [Act.put, List.setIfInBounds_toArray, List.set_cons_zero, List.set_cons_succ]
                refine wpAnyK_load 44 (i := 8) (fuel := 5) rfl rfl (by kernel_rfl) (by kernel_rfl) (by kernel_rfl) (.inr (by decide)) (by decide) (fun _ _ _ h => h) rfl (fun w h => ex_load_at _ _ rfl b (off + j * 100) rfl (u8s p.blind.1) (by rw [u8s_length, Hpl.out]) (Hcp.out _ (h.sl (some ⟨b, off, none⟩) l.length c))) ?_; simp only [Act.put, List.setIfInBounds_toArray, List.set_cons_zero, List.set_cons_succ]
                refine wpAnyK_pure 45 (v := ?_) (i := 9) (fuel := 4) rfl rfl (by kernel_rfl) (by kernel_rfl) (by kernel_rfl) (by decide) (fun _ _ _ h => h) (Or.inl ⟨by rfl, fun w _ => ?_⟩) ?_; rotate_left; (go_simp; with_reducible rfl); simp only [Act.put, List.setIfInBounds_toArray, List.set_cons_zero, List.set_cons_succ]
                refine wpAnyK_load 46 (i := 10) (fuel := 3) rfl rfl (by kernel_rfl) (by kernel_rfl) (by kernel_rfl) (.inr (by decide)) (by decide) (fun _ _ _ h => h) rfl (fun w h => ex_loadv h _ _ rfl _ _ rfl) ?_; simp only [Act.put, List.setIfInBounds_toArray, List.set_cons_zero, List.set_cons_succ]
                refine wpAnyK_one (i := 11) (fuel := 2) rfl (by kernel_rfl) rfl (fun K hK => ?_)
                (go_simp; go_wp2_with (go_at_call 61; refine (less_ref (a := p.blind) (b := blind)).mono ?_; rw [HR.out]; rintro r w ⟨rfl, hs⟩; replace h := h.quiet hs; clear hs)); refine hK.out _ _ (fun _ => h.to) ?_; clear hK K
                try simp only [Act.put, List.setIfInBounds_toArray, List.set_cons_zero, List.set_cons_succ]
                refine wpAnyK_pure 48 (v := ?_) (i := 12) (fuel := 1) rfl rfl (by kernel_rfl) (by kernel_rfl) (by kernel_rfl) (by decide) (fun _ _ _ h => h) (Or.inl ⟨by rfl, fun w _ => ?_⟩) ?_; rotate_left; (go_simp; with_reducible rfl); simp only [Act.put, List.setIfInBounds_toArray, List.set_cons_zero, List.set_cons_succ]
                refine wpAnyK_pure 49 (v := ?_) (i := 13) (fuel := 0) rfl rfl (by kernel_rfl) (by kernel_rfl) (by kernel_rfl) (by decide) (fun _ _ _ h => h) (Or.inl ⟨by rfl, fun w _ => ?_⟩) ?_; rotate_left; (go_simp; with_reducible rfl); simp only [Act.put, List.setIfInBounds_toArray, List.set_cons_zero, List.set_cons_succ]
                refine wpAnyK_done (by kernel_rfl) ?_
                go_wp2
                go_ret
                exact ⟨by rw [Hd.out]; rfl, h.to⟩
            | true =>
              have Hord : Hid (∀ j p, j + 1 = k → l[j]? = some p → lessM p.blind.1 blind.1 = true) := Lib.hid (fun j2 p2 hj2 h5 => by
                have h3 := Hj.out
                obtain rfl : j2 = j := by omega
                have h4 := HR.out
                rw [List.getElem?_eq_getElem hjl, Hp.out] at h5
                cases h5
                exact h4)
              rcases hkk with h1 | ⟨h1, h2⟩ | ⟨h1, h2, h4⟩
              all_goals
                go_upto_region 8 with (first | (refine wl_at 16 rfl ?_; refine wl_reads rfl (ex_load_at _ _ rfl b (off + k * 100) rfl (enK ⟨blind, name, kind, id, key, realm, epoch⟩) (enK_length _) (hcs (h.sl (some ⟨b, off, none⟩) l.length c))) ?_) | (refine wl_at 4 rfl ?_; refine wl_runs rfl (ex_alloc h 87 rfl) ?_; clear h; rintro _ w ⟨g4, rfl, h⟩) | (refine wl_none rfl ?_; refine wl_runs rfl (ex_store h _ _ _ rfl _ _ rfl (enK ⟨blind, name, kind, id, key, realm, epoch⟩) rfl) ?_; clear h; rintro _ w ⟨rfl, h⟩; try dsimp only [Act.put]) | (go_at_call 38; refine (good_ref (l := name) (by omega)).mono ?_; rw [HG.out]; rintro r w ⟨rfl, rfl⟩) | (refine wl_at 18 rfl ?_; refine wl_reads rfl (ex_loadv h _ _ rfl _ _ rfl) ?_) | (refine wl_at 23 rfl ?_; refine wl_reads rfl (ex_loadv h _ _ rfl _ _ rfl) ?_) | (refine wl_at 27 rfl ?_; refine wl_reads rfl (ex_loadv h _ _ rfl _ _ rfl) ?_) | (refine wl_at 32 rfl ?_; refine wl_reads rfl (ex_loadv h _ _ rfl _ _ rfl) ?_))
                refine wp_region_K 14 (fun w' => St _ _ w' _) (by kernel_rfl) h.drew ?_; replace h := h.drew
                refine wpAnyK_pure 36 (v := ?_) (i := 0) (fuel := 13) rfl rfl (by kernel_rfl) (by kernel_rfl) (by kernel_rfl) (by decide) (fun _ _ _ h => h) (Or.inl ⟨by rfl, fun w _ => ?_⟩) ?_; rotate_left; (go_simp; with_reducible rfl); simp only [Act.put, List.setIfInBounds_toArray, List.set_cons_zero, List.set_cons_succ]
                refine wpAnyK_pure 37 (v := (.bool true)) (i := 1) (fuel := 12) rfl rfl (by kernel_rfl) (by kernel_rfl) (by kernel_rfl) (by decide) (fun _ _ _ h => h) (Or.inl ⟨by rfl, fun w _ => (by go_simp)⟩) ?_; simp only [Act.put, List.setIfInBounds_toArray, List.set_cons_zero, List.set_cons_succ]
                refine wpAnyK_pure 38 (v := ?_) (i := 2) (fuel := 11) rfl rfl (by kernel_rfl) (by kernel_rfl) (by kernel_rfl) (by decide) (fun _ _ _ h => h) (Or.inl ⟨by rfl, fun w _ => ?_⟩) ?_; rotate_left; (go_simp; with_reducible rfl); simp only [Act.put, List.setIfInBounds_toArray, List.set_cons_zero, List.set_cons_succ]
                refine wpAnyK_pure 39 (v := ?_) (i := 3) (fuel := 10) rfl rfl (by kernel_rfl) (by kernel_rfl) (by kernel_rfl) (by decide) (fun _ _ _ h => h) (Or.inl ⟨by rfl, fun w _ => ?_⟩) ?_; rotate_left; (go_simp; with_reducible rfl); simp only [Act.put, List.setIfInBounds_toArray, List.set_cons_zero, List.set_cons_succ]
                refine wpAnyK_pure 40 (v := ?_) (i := 4) (fuel := 9) rfl rfl (by kernel_rfl) (by kernel_rfl) (by kernel_rfl) (by decide) (fun _ _ _ h => h) (Or.inl ⟨by rfl, fun w _ => ?_⟩) ?_; rotate_left; (go_simp; with_reducible rfl); simp only [Act.put, List.setIfInBounds_toArray, List.set_cons_zero, List.set_cons_succ]
                refine wpAnyK_pure 41 (v := (.int .i64 (j : Int))) (i := 5) (fuel := 8) rfl rfl (by kernel_rfl) (by kernel_rfl) (by kernel_rfl) (by decide) (fun _ _ _ h => h) (Or.inl ⟨by rfl, fun w _ => (by go_simp)⟩) ?_; simp only [Act.put, List.setIfInBounds_toArray, List.set_cons_zero, List.set_cons_succ]
                refine wpAnyK_pure 42 (v := ?_) (i := 6) (fuel := 7) rfl rfl (by kernel_rfl) (by kernel_rfl) (by kernel_rfl) (by decide) (fun _ _ _ h => h) (Or.inl ⟨by rfl, fun w _ => ?_⟩) ?_; rotate_left; (go_simp; with_reducible rfl); simp only [Act.put, List.setIfInBounds_toArray, List.set_cons_zero, List.set_cons_succ]
                refine wpAnyK_pure 43 (v := ?_) (i := 7) (fuel := 6) rfl rfl (by kernel_rfl) (by kernel_rfl) (by kernel_rfl) (by decide) (fun _ _ _ h => h) (Or.inl ⟨by rfl, fun w _ => ?_⟩) ?_; rotate_left; (go_simp; with_reducible rfl); simp only [Act.put, List.setIfInBounds_toArray, List.set_cons_zero, List.set_cons_succ]
                refine wpAnyK_load 44 (i := 8) (fuel := 5) rfl rfl (by kernel_rfl) (by kernel_rfl) (by kernel_rfl) (.inr (by decide)) (by decide) (fun _ _ _ h => h) rfl (fun w h => ex_load_at _ _ rfl b (off + j * 100) rfl (u8s p.blind.1) (by rw [u8s_length, Hpl.out]) (Hcp.out _ (h.sl (some ⟨b, off, none⟩) l.length c))) ?_; simp only [Act.put, List.setIfInBounds_toArray, List.set_cons_zero, List.set_cons_succ]
                refine wpAnyK_pure 45 (v := ?_) (i := 9) (fuel := 4) rfl rfl (by kernel_rfl) (by kernel_rfl) (by kernel_rfl) (by decide) (fun _ _ _ h => h) (Or.inl ⟨by rfl, fun w _ => ?_⟩) ?_; rotate_left; (go_simp; with_reducible rfl); simp only [Act.put, List.setIfInBounds_toArray, List.set_cons_zero, List.set_cons_succ]
                refine wpAnyK_load 46 (i := 10) (fuel := 3) rfl rfl (by kernel_rfl) (by kernel_rfl) (by kernel_rfl) (.inr (by decide)) (by decide) (fun _ _ _ h => h) rfl (fun w h => ex_loadv h _ _ rfl _ _ rfl) ?_; simp only [Act.put, List.setIfInBounds_toArray, List.set_cons_zero, List.set_cons_succ]
                refine wpAnyK_one (i := 11) (fuel := 2) rfl (by kernel_rfl) rfl (fun K hK => ?_)
                (go_simp; go_wp2_with (go_at_call 61; refine (less_ref (a := p.blind) (b := blind)).mono ?_; rw [HR.out]; rintro r w ⟨rfl, hs⟩; replace h := h.quiet hs; clear hs)); refine hK.out _ _ (fun _ => h.to) ?_; clear hK K
                try simp only [Act.put, List.setIfInBounds_toArray, List.set_cons_zero, List.set_cons_succ]
                refine wpAnyK_pure 48 (v := ?_) (i := 12) (fuel := 1) rfl rfl (by kernel_rfl) (by kernel_rfl) (by kernel_rfl) (by decide) (fun _ _ _ h => h) (Or.inl ⟨by rfl, fun w _ => ?_⟩) ?_; rotate_left; (go_simp; with_reducible rfl); simp only [Act.put, List.setIfInBounds_toArray, List.set_cons_zero, List.set_cons_succ]
                refine wpAnyK_pure 49 (v := ?_) (i := 13) (fuel := 0) rfl rfl (by kernel_rfl) (by kernel_rfl) (by kernel_rfl) (by decide) (fun _ _ _ h => h) (Or.inl ⟨by rfl, fun w _ => ?_⟩) ?_; rotate_left; (go_simp; with_reducible rfl); simp only [Act.put, List.setIfInBounds_toArray, List.set_cons_zero, List.set_cons_succ]
                refine wpAnyK_done (by kernel_rfl) ?_
                go_wp2
                go_loopw [54] (fun iv wr => ∃ q : Nat, iv = .int .i64 (q : Int) ∧ q ≤ k ∧ Hid (metM l q name = false) ∧ St S w0 wr (eBlk g4 87 (enK ⟨blind, name, kind, id, key, realm, epoch⟩) :: L)) (fun iv _ => k - (intOf iv).toNat)
                case atStart => exact ⟨0, rfl, Nat.zero_le _, Lib.hid (metM_zero _ _), h.to⟩
                case round =>
                  clear h
                  obtain ⟨q, rfl, hq, Hmet, h⟩ := hrel
                  by_cases hqk : q < k
                  · have f8 : (q : Int) < (k : Int) := by omega
                    have t8 : ((q : Int)).toNat = q := by omega
                    have f7 : (q : Int) < (l.length : Int) := by omega
                    obtain ⟨x, hx⟩ : ∃ x, l[q]'(by omega) = x := ⟨_, rfl⟩
                    have hcx : ∀ {w}, Sl w (some ⟨b, off, none⟩) l.length c 100 (l.flatMap enK) → Cells w b (off + q * 100) (enK x) := fun hs => by rw [← hx]; exact hs.elemAt enK_length (by omega) (by omega)
                    have Hcx : Hid (∀ w, Sl w (some ⟨b, off, none⟩) l.length c 100 (l.flatMap enK) → Cells w b (off + q * 100) (enK x)) := Lib.hid (fun w hs => hcx hs)
                    have Hx := Lib.hid hx
                    obtain ⟨B, hB⟩ : ∃ B, (x.name == name) = B := ⟨_, rfl⟩
                    have hst : ((str x.name).toList == (str name).toList) = B := by rw [str_toList, str_toList]; exact hB
                    have HB := Lib.hid hB
                    obtain ⟨xb, xn, xk, xi, xy, xr, xe⟩ := x
                    simp only at HB hst
                    have r4 : Row (u8s xb.1) 32 := Row.u32 xb
                    have r5 : Row (u8s xi.1) 32 := Row.u32 xi
                    have r6 : Row (u8s xy.1) 32 := Row.u32 xy
                    clear hcx hx hB
                    cases B
                    · have Hmn : Hid (metM l (q + 1) name = false) := Lib.hid (by rw [metM_succ (by omega) Hx.out, Hmet.out, HB.out]; rfl)
                      go_wp2_with (first | (refine wl_at 57 rfl ?_; refine wl_reads rfl (ex_load_at _ _ rfl b (off + q * 100) rfl (enK ⟨xb, xn, xk, xi, xy, xr, xe⟩) (enK_length _) (Hcx.out _ (h.sl (some ⟨b, off, none⟩) l.length c))) ?_) | (refine wl_at 6 rfl ?_; refine wl_runs rfl (ex_alloc h 87 rfl) ?_; clear h; rintro _ w ⟨g6, rfl, h⟩) | (refine wl_none rfl ?_; refine wl_runs rfl (ex_store h _ _ _ rfl _ _ rfl (enK ⟨xb, xn, xk, xi, xy, xr, xe⟩) rfl) ?_; clear h; rintro _ w ⟨rfl, h⟩; try dsimp only [Act.put]) | (refine wl_at 59 rfl ?_; refine wl_reads rfl (ex_loadv h _ _ rfl _ _ rfl) ?_) | (refine wl_at 61 rfl ?_; refine wl_reads rfl (ex_loadv h _ _ rfl _ _ rfl) ?_))
                      refine ⟨⟨q + 1, by push_cast; rfl, by omega, Hmn, h.to⟩, ?_⟩
                      simp only [intOf]
                      omega
                    · have Hd := Lib.hid (dirM_met Hkl.out He.out hqk Hx.out (by simpa using HB.out))
                      go_wp2_with (first | (refine wl_at 57 rfl ?_; refine wl_reads rfl (ex_load_at _ _ rfl b (off + q * 100) rfl (enK ⟨xb, xn, xk, xi, xy, xr, xe⟩) (enK_length _) (Hcx.out _ (h.sl (some ⟨b, off, none⟩) l.length c))) ?_) | (refine wl_at 6 rfl ?_; refine wl_runs rfl (ex_alloc h 87 rfl) ?_; clear h; rintro _ w ⟨g6, rfl, h⟩) | (refine wl_none rfl ?_; refine wl_runs rfl (ex_store h _ _ _ rfl _ _ rfl (enK ⟨xb, xn, xk, xi, xy, xr, xe⟩) rfl) ?_; clear h; rintro _ w ⟨rfl, h⟩; try dsimp only [Act.put]) | (refine wl_at 59 rfl ?_; refine wl_reads rfl (ex_loadv h _ _ rfl _ _ rfl) ?_) | (refine wl_at 61 rfl ?_; refine wl_reads rfl (ex_loadv h _ _ rfl _ _ rfl) ?_))
                      go_ret
                      exact ⟨by rw [Hd.out]; rfl, h.to⟩
                  · obtain rfl : q = k := by omega
                    have Hr := Lib.hid (okM_good Hkl.out He.out Ho.out Hord.out Hmet.out)
                    have hqq : ¬ ((q : Int) < (q : Int)) := by omega
                    clear hqk
                    go_wp2
                    refine ⟨⟨q + 1, by push_cast; rfl, by omega, Lib.hid (fun i hi => ?_), h.to⟩, ?_⟩
                    · rcases Nat.lt_succ_iff_lt_or_eq.1 hi with h1 | rfl
                      · exact Hok.out i h1
                      · exact Hr.out
                    · simp only [intOf]
                      omega
        · have h1 : (kind != 1) = true := by simp; exact fun e => hkd (.inl e)
          have h2 : (kind != 2) = true := by simp; exact fun e => hkd (.inr (.inl e))
          have h4 : (kind != 4) = true := by simp; exact fun e => hkd (.inr (.inr e))
          have ho : oneM ⟨blind, name, kind, id, key, realm, epoch⟩ = false := by unfold oneM; simp only [bne, Bool.not_eq_true'] at h1 h2 h4; simp only [h1, h2, h4, Bool.or_self, Bool.false_and]
          have Hd : Hid (dirM l = false) := Lib.hid (dirM_one hkl He.out ho)
          clear ho hG hkd
          go_wp2_with (first | (refine wl_at 16 rfl ?_; refine wl_reads rfl (ex_load_at _ _ rfl b (off + k * 100) rfl (enK ⟨blind, name, kind, id, key, realm, epoch⟩) (enK_length _) (hcs (h.sl (some ⟨b, off, none⟩) l.length c))) ?_) | (refine wl_at 4 rfl ?_; refine wl_runs rfl (ex_alloc h 87 rfl) ?_; clear h; rintro _ w ⟨g4, rfl, h⟩) | (refine wl_none rfl ?_; refine wl_runs rfl (ex_store h _ _ _ rfl _ _ rfl (enK ⟨blind, name, kind, id, key, realm, epoch⟩) rfl) ?_; clear h; rintro _ w ⟨rfl, h⟩; try dsimp only [Act.put]) | (go_at_call 38; refine (good_ref (l := name) (by omega)).mono ?_; rw [HG.out]; rintro r w ⟨rfl, rfl⟩) | (refine wl_at 18 rfl ?_; refine wl_reads rfl (ex_loadv h _ _ rfl _ _ rfl) ?_) | (refine wl_at 23 rfl ?_; refine wl_reads rfl (ex_loadv h _ _ rfl _ _ rfl) ?_) | (refine wl_at 27 rfl ?_; refine wl_reads rfl (ex_loadv h _ _ rfl _ _ rfl) ?_) | (refine wl_at 32 rfl ?_; refine wl_reads rfl (ex_loadv h _ _ rfl _ _ rfl) ?_))
          go_ret
          exact ⟨by rw [Hd.out]; rfl, h.to⟩
    · obtain rfl : k = l.length := by omega
      have Hd := Lib.hid (dirM_yes (l := l) (by omega) Hok.out)
      have hkk : ¬ ((l.length : Int) < (l.length : Int)) := by omega
      clear hkl
      go_wp2
      go_ret
      exact ⟨by rw [Hd.out]; rfl, h.to⟩
end Go.Proofs.Ytnokgejmlpmgfaa
