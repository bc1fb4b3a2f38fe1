/- The law DirStays: a directory stays one, whatever is put in or taken out. -/
import Derived.Test.YtnokgejmlpmgfaaCDirWith
import Derived.Test.YtnokgejmlpmgfaaCDirFind
import Derived.Test.YtnokgejmlpmgfaaCDirPuts
namespace Go.Proofs.Ytnokgejmlpmgfaa
open Go.RowKit
set_option linter.unusedVariables false
set_option linter.unusedSimpArgs false

theorem find_first {S : Nat → Prop} {w0 w : World} {L F : List Ent} {A : Option Addr} {c : Nat} {l : List En} {n : List UInt8} {i : Nat} (h : St S w0 w L) [ka : Slot L (eSl A l.length c 100 (l.flatMap enK)) F] (hl : l.length ≤ 1000) (hF : FirstE l n i) :
    Calls Try.prog 40 #[.slice A l.length c, .string (str n)] w fun e w' => e = .returned (.tuple #[.int .i64 (i : Int), .bool true]) ∧ St S w0 w' L :=
  (find_code h hl).mono fun e w' ⟨h1, h2⟩ => by
    rcases h1 with ⟨j, hj, rfl⟩ | ⟨hno, rfl⟩
    · obtain rfl := firstE_unique hj hF
      exact ⟨rfl, h2⟩
    · exact absurd hF.at_ (hno _ (List.getElem_mem _))
set_option maxRecDepth 100000 in
set_option maxHeartbeats 4000000 in
theorem walk_DirStays0 {w : World} {l : List En} {A : Option Addr} {c : Nat} (ha : Sl w A l.length c 100 (l.flatMap enK)) (ho : ∀ e ∈ l, EnOk e) {e : En} (he : EnOk e) {n : List UInt8} :
    Calls Try.prog 10 #[.slice A l.length c, .agg (enK e).toArray, .string (str n)] w fun r w' => r = .returned (.bool true) ∧ Below w.heap.size w w' := by
  have h := St.read0 ha (by omega)
  clear ha
  obtain ⟨fw, hfw⟩ : ∃ fw, fewD l = fw := ⟨_, rfl⟩
  have Hf := Lib.hid hfw
  have hsz1 := str_size e.name
  have hsz2 := str_size n
  have hWo : ∀ x ∈ withM l e, EnOk x := fun x hx => by rcases withM_mem hx with rfl | hx; exact he; exact ho x hx
  have hWd : dirM l = true → l.length ≤ 499 → dirM (withM l e) = oneM e := fun h1 h2 => dirM_with h1 h2
  obtain ⟨hF, hFe⟩ := firstE_with l e
  have hWl := withM_length l e
  have hKl := keepE_length l e
  obtain ⟨W, hW⟩ : ∃ W, withM l e = W := ⟨_, rfl⟩
  rw [hW] at hWo hWd hF hFe hWl
  obtain ⟨I, hI⟩ : ∃ I, atE (keepE l e) e = I := ⟨_, rfl⟩
  rw [hI] at hF hFe
  obtain ⟨O, hO⟩ : ∃ O, oneM e = O := ⟨_, rfl⟩
  rw [hO] at hWd
  have he2 := he
  obtain ⟨eb, en, ek, ei, ey, er, ee⟩ := e
  simp only at hsz1 hF
  have HW := Lib.hid hW
  have q1 : Row (u8s eb.1) 32 := Row.u32 eb
  have q2 : Row (u8s ei.1) 32 := Row.u32 ei
  have q3 : Row (u8s ey.1) 32 := Row.u32 ey
  clear hW hI
  cases fw with
  | false =>
    clear hfw ho hWo hWd hF hFe hWl hKl hO he he2
    go_enter Try.func10, Try.ntmps10
    go_wp2_with (first | (refine wl_at 4 rfl ?_; refine wl_runs rfl (ex_box h 87 _ rfl (enK ⟨eb, en, ek, ei, ey, er, ee⟩) rfl) ?_; clear h; rintro _ w ⟨ge, rfl, h⟩) | (go_at_call 13; refine (dir_awake h).mono ?_; clear h; rintro r w ⟨rfl, h⟩) | ((go_at_call 14; refine (few_dir h).mono ?_; rw [Hf.out]; clear h; rintro r w ⟨rfl, h⟩); go_wp2))
    go_ret
    exact ⟨rfl, h.step.below⟩
  | true =>
    obtain ⟨hn, hm⟩ := fewD_yes hfw
    have Hnm2 := Lib.hid (fun e he => Nat.le_trans (hm e he) (by decide) : ∀ e ∈ l, e.name.length ≤ 1000000)
    clear hfw hm
    by_cases hel : en.length ≤ 200
    · have f1 : decide ((200 : Int) < (en.length : Int)) = false := by simp; omega
      by_cases hnl : n.length ≤ 200
      · have f2 : decide ((200 : Int) < (n.length : Int)) = false := by simp; omega
        cases hD : dirM l with
        | false =>
          have HD := Lib.hid hD
          clear hD ho hWo hWd hF hFe hWl hKl hO he he2
          go_enter Try.func10, Try.ntmps10
          go_wp2_with (first | (refine wl_at 4 rfl ?_; refine wl_runs rfl (ex_box h 87 _ rfl (enK ⟨eb, en, ek, ei, ey, er, ee⟩) rfl) ?_; clear h; rintro _ w ⟨ge, rfl, h⟩) | (go_at_call 13; refine (dir_awake h).mono ?_; clear h; rintro r w ⟨rfl, h⟩) | (go_at_call 14; refine (few_dir h).mono ?_; rw [Hf.out]; clear h; rintro r w ⟨rfl, h⟩) | (refine wl_at 18 rfl ?_; refine wl_reads rfl (ex_loadv h _ _ rfl _ _ rfl) ?_) | (go_at_call 18; refine (dir_good_ref h Hnm2.out).mono ?_; rw [HD.out]; clear h; rintro r w ⟨rfl, h⟩))
          go_ret
          exact ⟨rfl, h.step.below⟩
        | true =>
          have HD := Lib.hid hD
          have HWd := Lib.hid (hWd hD (by omega))
          have HTd := Lib.hid (dirM_without hD n)
          have HWnm := Lib.hid (fun e he => (hWo e he).2.2.2.2.2.2 : ∀ e ∈ W, e.name.length ≤ maxLen)
          have HTnm := Lib.hid (fun e he => (ho e (List.mem_filter.1 he).1).2.2.2.2.2.2 : ∀ e ∈ withoutM l n, e.name.length ≤ maxLen)
          obtain ⟨T, hT⟩ : ∃ T, withoutM l n = T := ⟨_, rfl⟩
          rw [hT] at HTd HTnm
          have HT := Lib.hid hT
          have hIW := hF.lt
          have hWI : W[I] = ⟨eb, en, ek, ei, ey, er, ee⟩ := by rw [List.getElem?_eq_getElem hIW] at hFe; exact Option.some.inj hFe
          have HWI := Lib.hid hWI
          have HF := Lib.hid hF
          have f3 : (0 : Int) ≤ (I : Int) := by omega
          have f4 : (I : Int) < (W.length : Int) := by omega
          have t4 : ((I : Int)).toNat = I := by omega
          have hW3 : W.length ≤ 1000 := by omega
          have hoo : (O != O) = false := by simp
          obtain ⟨G, hG⟩ : ∃ G, goodM en = G := ⟨_, rfl⟩
          have HG := Lib.hid hG
          have hk : (G = false ∧ O = false) ∨ (G = true ∧ (((ek == 1) = true ∧ O = true) ∨ ((ek == 1) = false ∧ (ek == 2) = true ∧ O = true) ∨ ((ek == 1) = false ∧ (ek == 2) = false ∧ (ek == 4) = true ∧ O = true) ∨ ((ek == 1) = false ∧ (ek == 2) = false ∧ (ek == 4) = false ∧ O = false))) := by
            have hO2 : ((ek == 1 || ek == 2 || ek == 4) && goodM en) = O := hO
            rw [hG] at hO2
            cases G
            · exact .inl ⟨rfl, by rw [← hO2]; simp⟩
            · refine .inr ⟨rfl, ?_⟩
              rw [Bool.and_true] at hO2
              cases h1 : (ek == 1) <;> cases h2 : (ek == 2) <;> cases h4 : (ek == 4) <;> rw [h1, h2, h4] at hO2 <;> simp at hO2 <;> simp [hO2.symm]
          clear hD ho hWo hWd hF hFe hWl hKl hO hG hT hWI he2
          have h0 := h
          clear h
          rcases hk with ⟨rfl, rfl⟩ | ⟨rfl, ⟨k1, rfl⟩ | ⟨k1, k2, rfl⟩ | ⟨k1, k2, k4, rfl⟩ | ⟨k1, k2, k4, rfl⟩⟩
          all_goals
            have h := h0
            clear h0
            go_enter Try.func10, Try.ntmps10
            go_upto_region 5 with (first | (refine wl_at 4 rfl ?_; refine wl_runs rfl (ex_box h 87 _ rfl (enK ⟨eb, en, ek, ei, ey, er, ee⟩) rfl) ?_; clear h; rintro _ w ⟨ge, rfl, h⟩) | (go_at_call 13; refine (dir_awake h).mono ?_; clear h; rintro r w ⟨rfl, h⟩) | (go_at_call 14; refine (few_dir h).mono ?_; rw [Hf.out]; clear h; rintro r w ⟨rfl, h⟩) | (refine wl_at 18 rfl ?_; refine wl_reads rfl (ex_loadv h _ _ rfl _ _ rfl) ?_) | (go_at_call 18; refine (dir_good_ref h Hnm2.out).mono ?_; rw [HD.out]; clear h; rintro r w ⟨rfl, h⟩))
          rotate_left 0
          focus
            go_upto_region 6 with (first | (refine wl_at 33 rfl ?_; refine wl_reads rfl (ex_loadv h _ _ rfl _ _ rfl) ?_) | ((go_at_call 38; refine (good_ref (l := en) (by omega)).mono ?_; rw [HG.out]; rintro r w ⟨rfl, rfl⟩); go_upto_region 6 with fail))
          rotate_left 1
          focus
            go_upto_region 6 with (first | (refine wl_at 33 rfl ?_; refine wl_reads rfl (ex_loadv h _ _ rfl _ _ rfl) ?_) | (go_at_call 38; refine (good_ref (l := en) (by omega)).mono ?_; rw [HG.out]; rintro r w ⟨rfl, rfl⟩) | ((refine wl_at 37 rfl ?_; refine wl_reads rfl (ex_loadv h _ _ rfl _ _ rfl) ?_); go_upto_region 6 with fail))
          rotate_left 1
          focus
            go_upto_region 6 with (first | (refine wl_at 33 rfl ?_; refine wl_reads rfl (ex_loadv h _ _ rfl _ _ rfl) ?_) | (go_at_call 38; refine (good_ref (l := en) (by omega)).mono ?_; rw [HG.out]; rintro r w ⟨rfl, rfl⟩) | (refine wl_at 37 rfl ?_; refine wl_reads rfl (ex_loadv h _ _ rfl _ _ rfl) ?_) | ((refine wl_at 41 rfl ?_; refine wl_reads rfl (ex_loadv h _ _ rfl _ _ rfl) ?_); go_upto_region 6 with fail))
          rotate_left 1
          focus
            go_upto_region 6 with (first | (refine wl_at 33 rfl ?_; refine wl_reads rfl (ex_loadv h _ _ rfl _ _ rfl) ?_) | (go_at_call 38; refine (good_ref (l := en) (by omega)).mono ?_; rw [HG.out]; rintro r w ⟨rfl, rfl⟩) | (refine wl_at 37 rfl ?_; refine wl_reads rfl (ex_loadv h _ _ rfl _ _ rfl) ?_) | (refine wl_at 41 rfl ?_; refine wl_reads rfl (ex_loadv h _ _ rfl _ _ rfl) ?_) | (refine wl_at 46 rfl ?_; refine wl_reads rfl (ex_loadv h _ _ rfl _ _ rfl) ?_))
          rotate_left 1
          focus
            go_upto_region 6 with (first | (refine wl_at 33 rfl ?_; refine wl_reads rfl (ex_loadv h _ _ rfl _ _ rfl) ?_) | (go_at_call 38; refine (good_ref (l := en) (by omega)).mono ?_; rw [HG.out]; rintro r w ⟨rfl, rfl⟩) | (refine wl_at 37 rfl ?_; refine wl_reads rfl (ex_loadv h _ _ rfl _ _ rfl) ?_) | (refine wl_at 41 rfl ?_; refine wl_reads rfl (ex_loadv h _ _ rfl _ _ rfl) ?_) | (refine wl_at 46 rfl ?_; refine wl_reads rfl (ex_loadv h _ _ rfl _ _ rfl) ?_))
          all_goals
            go_upto_region 10 with (first
              | (refine wl_at 51 rfl ?_; refine wl_reads rfl (ex_loadv h _ _ rfl _ _ rfl) ?_) | (refine wl_at 56 rfl ?_; refine wl_reads rfl (ex_loadv h _ _ rfl _ _ rfl) ?_)
              | (go_at_call 39; refine (with_code (e := ⟨eb, en, ek, ei, ey, er, ee⟩) h (by omega)).mono ?_; rw [HW.out]; clear h; rintro r w ⟨A1, c1, rfl, h⟩; replace h := h.release A1 (by omega))
              | (go_at_call 40; refine (find_first (A := A1) (c := c1) (l := W) (n := en) (i := I) h (by omega) HF.out).mono ?_; clear h; rintro r w ⟨rfl, h⟩)
              | (go_at_call 41; refine (without_code (l := l) (n := n) h (by omega)).mono ?_; rw [HT.out]; clear h; rintro r w ⟨A2, c2, rfl, h⟩)
              | (have q := HTd.out; clear HTd; go_at_call 17; refine (dir_good (A := A2) (c := c2) (l := T) h HTnm.out).mono ?_; rw [q]; clear h q; rintro r w ⟨rfl, h⟩)
              | (go_at_call 17; refine (dir_good (A := A1) (c := c1) (l := W) h HWnm.out).mono ?_; rw [HWd.out]; clear h; rintro r w ⟨rfl, h⟩))
            obtain ⟨b, off, rfl, _⟩ := (h.sl A1 W.length c1).pos (by omega)
            have Hcs := Lib.hid (fun w hs => by rw [← HWI.out]; exact hs.elemAt enK_length HF.out.lt (by omega) : ∀ w, Sl w (some ⟨b, off, none⟩) W.length c1 100 (W.flatMap enK) → Cells w b (off + I * 100) (enK ⟨eb, en, ek, ei, ey, er, ee⟩))
            refine wp_region_K 10 (fun w' => St _ _ w' _) (by kernel_rfl) h.drew ?_; replace h := h.drew
            refine wpAnyK_pure 71 (v := ?_) (i := 0) (fuel := 9) rfl rfl (by kernel_rfl) (by kernel_rfl) (by kernel_rfl) (by decide) (fun _ _ _ h => h) (Or.inl ⟨by rfl, fun w _ => ?_⟩) ?_; rotate_left; (go_simp; with_reducible rfl); simp only [Act.put, List.setIfInBounds_toArray, List.set_cons_zero, List.set_cons_succ]
            refine wpAnyK_pure 72 (v := ?_) (i := 1) (fuel := 8) rfl rfl (by kernel_rfl) (by kernel_rfl) (by kernel_rfl) (by decide) (fun _ _ _ h => h) (Or.inl ⟨by rfl, fun w _ => ?_⟩) ?_; rotate_left; (go_simp; with_reducible rfl); simp only [Act.put, List.setIfInBounds_toArray, List.set_cons_zero, List.set_cons_succ]
            refine wpAnyK_pure 73 (v := ?_) (i := 2) (fuel := 7) rfl rfl (by kernel_rfl) (by kernel_rfl) (by kernel_rfl) (by decide) (fun _ _ _ h => h) (Or.inl ⟨by rfl, fun w _ => ?_⟩) ?_; rotate_left; (go_simp; with_reducible rfl); simp only [Act.put, List.setIfInBounds_toArray, List.set_cons_zero, List.set_cons_succ]
            refine wpAnyK_pure 74 (v := ?_) (i := 3) (fuel := 6) rfl rfl (by kernel_rfl) (by kernel_rfl) (by kernel_rfl) (by decide) (fun _ _ _ h => h) (Or.inl ⟨by rfl, fun w _ => ?_⟩) ?_; rotate_left; (go_simp; with_reducible rfl); simp only [Act.put, List.setIfInBounds_toArray, List.set_cons_zero, List.set_cons_succ]
            refine wpAnyK_pure 75 (v := ?_) (i := 4) (fuel := 5) rfl rfl (by kernel_rfl) (by kernel_rfl) (by kernel_rfl) (by decide) (fun _ _ _ h => h) (Or.inl ⟨by rfl, fun w _ => ?_⟩) ?_; rotate_left; (go_simp; with_reducible rfl); simp only [Act.put, List.setIfInBounds_toArray, List.set_cons_zero, List.set_cons_succ]
            refine wpAnyK_load 76 (i := 5) (fuel := 4) rfl rfl (by kernel_rfl) (by kernel_rfl) (by kernel_rfl) (.inr (by decide)) (by decide) (fun _ _ _ h => h) rfl (fun w h => ex_load_at _ _ rfl b (off + I * 100) rfl (enK ⟨eb, en, ek, ei, ey, er, ee⟩) (enK_length _) (Hcs.out _ (h.sl (some ⟨b, off, none⟩) W.length c1))) ?_; simp only [Act.put, List.setIfInBounds_toArray, List.set_cons_zero, List.set_cons_succ]
            refine wpAnyK_load 77 (i := 6) (fuel := 3) rfl rfl (by kernel_rfl) (by kernel_rfl) (by kernel_rfl) (.inr (by decide)) (by decide) (fun _ _ _ h => h) rfl (fun w h => ex_loadv h _ _ rfl _ _ rfl) ?_; simp only [Act.put, List.setIfInBounds_toArray, List.set_cons_zero, List.set_cons_succ]
            refine wpAnyK_load 78 (i := 7) (fuel := 2) rfl rfl (by kernel_rfl) (by kernel_rfl) (by kernel_rfl) (.inr (by decide)) (by decide) (fun _ _ _ h => h) rfl (fun w h => ex_eqr (kv := envK) _ _ _ _ rfl ⟨⟨eb, en, ek, ei, ey, er, ee⟩, he⟩ ⟨⟨eb, en, ek, ei, ey, er, ee⟩, he⟩ rfl rfl true (by simp)) ?_; simp only [Act.put, List.setIfInBounds_toArray, List.set_cons_zero, List.set_cons_succ]
            refine wpAnyK_pure 79 (v := ?_) (i := 8) (fuel := 1) rfl rfl (by kernel_rfl) (by kernel_rfl) (by kernel_rfl) (by decide) (fun _ _ _ h => h) (Or.inl ⟨by rfl, fun w _ => ?_⟩) ?_; rotate_left; (go_simp; with_reducible rfl); simp only [Act.put, List.setIfInBounds_toArray, List.set_cons_zero, List.set_cons_succ]
            refine wpAnyK_pure 6 (v := ?_) (i := 9) (fuel := 0) rfl rfl (by kernel_rfl) (by kernel_rfl) (by kernel_rfl) (by decide) (fun _ _ _ h => h) (Or.inl ⟨by rfl, fun w _ => ?_⟩) ?_; rotate_left; (go_simp; with_reducible rfl); simp only [Act.put, List.setIfInBounds_toArray, List.set_cons_zero, List.set_cons_succ]
            refine wpAnyK_done (by kernel_rfl) ?_
            go_wp2
            go_ret
            exact ⟨rfl, h.step.below⟩
      · have f2 : decide ((200 : Int) < (n.length : Int)) = true := by simp; omega
        clear ho hWo hWd hF hFe hWl hKl hO he he2
        go_enter Try.func10, Try.ntmps10
        go_wp2_with (first | (refine wl_at 4 rfl ?_; refine wl_runs rfl (ex_box h 87 _ rfl (enK ⟨eb, en, ek, ei, ey, er, ee⟩) rfl) ?_; clear h; rintro _ w ⟨ge, rfl, h⟩) | (go_at_call 13; refine (dir_awake h).mono ?_; clear h; rintro r w ⟨rfl, h⟩) | (go_at_call 14; refine (few_dir h).mono ?_; rw [Hf.out]; clear h; rintro r w ⟨rfl, h⟩) | ((refine wl_at 18 rfl ?_; refine wl_reads rfl (ex_loadv h _ _ rfl _ _ rfl) ?_); go_wp2))
        go_ret
        exact ⟨rfl, h.step.below⟩
    · have f1 : decide ((200 : Int) < (en.length : Int)) = true := by simp; omega
      clear ho hWo hWd hF hFe hWl hKl hO he he2
      go_enter Try.func10, Try.ntmps10
      go_wp2_with (first | (refine wl_at 4 rfl ?_; refine wl_runs rfl (ex_box h 87 _ rfl (enK ⟨eb, en, ek, ei, ey, er, ee⟩) rfl) ?_; clear h; rintro _ w ⟨ge, rfl, h⟩) | (go_at_call 13; refine (dir_awake h).mono ?_; clear h; rintro r w ⟨rfl, h⟩) | (go_at_call 14; refine (few_dir h).mono ?_; rw [Hf.out]; clear h; rintro r w ⟨rfl, h⟩) | ((refine wl_at 18 rfl ?_; refine wl_reads rfl (ex_loadv h _ _ rfl _ _ rfl) ?_); go_wp2))
      go_ret
      exact ⟨rfl, h.step.below⟩
theorem walk_DirStays {w : World} {l : List En} {A : Option Addr} {m c : Nat} (ha : Sl w A m c 100 (l.flatMap enK)) (ho : ∀ e ∈ l, EnOk e) {e : En} (he : EnOk e) {n : List UInt8} (_ : n.length ≤ maxLen) :
    Calls Try.prog 10 #[.slice A m c, .agg (enK e).toArray, .string (str n)] w fun r w' => r = .returned (.bool true) ∧ Below w.heap.size w w' := by
  have hn : m = l.length := ha.n_flat enK_length (by omega)
  rw [hn] at ha
  rw [hn]
  exact walk_DirStays0 ha ho he
end Go.Proofs.Ytnokgejmlpmgfaa
