/- Directories as bytes: the reference. -/
import Derived.Test.YtnokgejmlpmgfaaCDirPlain
import Derived.Test.YtnokgejmlpmgfaaCDirGoodRef
import Derived.Test.YtnokgejmlpmgfaaCRefW
namespace Go.Proofs.Ytnokgejmlpmgfaa
open Go.RowKit
set_option linter.unusedVariables false
set_option linter.unusedSimpArgs false

theorem rn_n0 {S : Nat → Prop} {w0 w : World} {L : List Ent} {n : Nat} (h : St S w0 w L) (hn : n < 2 ^ 64) :
    Calls Try.prog 57 #[.slice none 0 0, .int .u64 (n : Int)] w fun e w' => ∃ A' c', e = .returned (.slice A' (nM n).length c') ∧ St S w0 w' (eOwn 5 1 A' (nM n).length c' (u8s (nM n)) :: L) :=
  (n_ref (l := []) (Sl.nil _ _) (by simp) hn).mono fun e w' ⟨A', m', c', h1, h2, h3, h4⟩ => by
    have hn := h2.sl.n_eq
    subst hn
    exact ⟨A', c', h1, h.ownNew h2 h3 h4⟩
/-- The bytes of the first k entries. -/
def upB (l : List En) (k : Nat) : List UInt8 := nM l.length ++ (l.take k).flatMap encE
theorem upB_zero (l : List En) : upB l 0 = nM l.length := by simp [upB]
theorem upB_all (l : List En) : upB l l.length = dirB l := by simp [upB, dirB]
theorem upB_next {l : List En} {k : Nat} {e : En} (hk : k < l.length) (he : l[k] = e) : upB l (k + 1) = upB l k ++ encE e := by
  rw [upB, List.take_succ_eq_append_getElem hk, he, List.flatMap_append, ← List.append_assoc]
  simp [upB]
theorem upB_len {l : List En} (h : ∀ e ∈ l, EnB e) (hl : l.length ≤ 500) (k : Nat) : (upB l k).length ≤ 110000 := by
  have h1 := encsE_len (l := l.take k) fun e he => h e (List.mem_of_mem_take he)
  have h2 := nM_ten (n := l.length) (by omega)
  have h3 : (l.take k).length ≤ l.length := List.length_take_le' k l
  rw [upB, List.length_append]
  omega
set_option maxRecDepth 100000 in
set_option maxHeartbeats 4000000 in
theorem dput_ref {S : Nat → Prop} {w0 w : World} {L : List Ent} {A : Option Addr} {c : Nat} {l : List En} (h : St S w0 w L) [ka : HasSl L A l.length c 100 (l.flatMap enK)] (hnm : ∀ e ∈ l, e.name.length ≤ 1000000) (ho : ∀ e ∈ l, EnOk e) :
    Calls Try.prog 16 #[.slice A l.length c] w fun e w' => ∃ A' c', e = .returned (.tuple #[.slice A' (doutM l).length c', .int .i64 (doutC l)]) ∧ St S w0 w' (eOwn 5 1 A' (doutM l).length c' (u8s (doutM l)) :: L) := by
  by_cases hok : dirM l = true
  · have e1 : doutM l = dirB l := by rw [doutM, if_pos hok]
    have e2 : doutC l = 0 := by rw [doutC, if_pos hok]
    have hl := (dirM_spec hok).1
    have henB := dirM_enB hok ho
    have Hlen := Lib.hid (upB_len henB hl)
    have HenB := Lib.hid henB
    have Hok := Lib.hid hok
    have Hnm := Lib.hid hnm
    have hw := wrap_u64 (n := l.length) (by omega)
    rw [e1, e2]
    have H0 := Lib.hid (upB_zero l)
    have hn0 := nM_ten (n := l.length) (by omega)
    clear e1 e2 henB hok ho hnm
    go_enter Try.func16, Try.ntmps16
    go_wp2_with (first
      | (go_at_call 18; refine (dir_good_ref h Hnm.out).mono ?_; rw [Hok.out]; clear h; rintro r w ⟨rfl, h⟩)
      | (go_at_call 57; refine (rn_n0 (n := l.length) h (by omega)).mono ?_; rw [← H0.out]; clear h; rintro e w ⟨A1, c1, rfl, h⟩))
    clear hw
    go_loopw [4, 16] (fun v i wr => ∃ (k : Nat) (A1 : Option Addr) (c1 : Nat) (q : List UInt8), v = .slice A1 q.length c1 ∧ i = .int .i64 (k : Int) ∧ k ≤ l.length ∧ q.length ≤ 110000 ∧ Hid (upB l k = q) ∧ St S w0 wr (eOwn 5 1 A1 q.length c1 (u8s q) :: L)) (fun _ i _ => l.length - (intOf i).toNat)
    case atStart =>
      exact ⟨0, A1, c1, _, rfl, rfl, Nat.zero_le _, Hlen.out 0, Lib.hid rfl, h⟩
    case round =>
      clear h
      obtain ⟨k, A2, c2, q, rfl, rfl, hk, hq, Hq, h⟩ := hrel
      by_cases hkl : k < l.length
      · have f2 : (k : Int) < (l.length : Int) := by omega
        have t1 : ((k : Int)).toNat = k := by omega
        obtain ⟨e, he⟩ : ∃ e, l[k] = e := ⟨_, rfl⟩
        have hB := HenB.out e (by rw [← he]; exact List.getElem_mem _)
        obtain ⟨b, off, rfl, _⟩ := (h.sl A l.length c).pos (by omega)
        have hcs : ∀ {w}, Sl w (some ⟨b, off, none⟩) l.length c 100 (l.flatMap enK) → Cells w b (off + k * 100) (enK e) := fun hs => by rw [← he]; exact hs.elemAt enK_length hkl (by omega)
        have Hcs : Hid (∀ w, Sl w (some ⟨b, off, none⟩) l.length c 100 (l.flatMap enK) → Cells w b (off + k * 100) (enK e)) := Lib.hid (fun w hs => hcs hs)
        have hnext := upB_next hkl he
        rw [Hq.out] at hnext
        have hl3 := Hlen.out (k + 1)
        rw [hnext] at hl3
        obtain ⟨blind, name, kind, id, key, realm, epoch⟩ := e
        obtain ⟨⟨o1, o2, o3, o4, o5, o6, o7⟩, o8, o9, o10⟩ := hB
        simp only at o1 o2 o3 o4 o5 o6 o7 o8 o9 o10
        obtain ⟨kd, rfl⟩ := Int.eq_ofNat_of_zero_le o8
        obtain ⟨re, rfl⟩ := Int.eq_ofNat_of_zero_le o3
        obtain ⟨ep, rfl⟩ := Int.eq_ofNat_of_zero_le o5
        obtain ⟨Q2, hQ2⟩ : ∃ Q2, q ++ blind.1 ++ nM name.length ++ name = Q2 := ⟨_, rfl⟩
        obtain ⟨Q3, hQ3⟩ : ∃ Q3, Q2 ++ nM kd = Q3 := ⟨_, rfl⟩
        obtain ⟨Q4, hQ4⟩ : ∃ Q4, Q3 ++ id.1 ++ key.1 ++ nM re = Q4 := ⟨_, rfl⟩
        obtain ⟨Q5, hQ5⟩ : ∃ Q5, Q4 ++ nM ep = Q5 := ⟨_, rfl⟩
        have hfin : q ++ encE ⟨blind, name, (kd : Int), id, key, (re : Int), (ep : Int)⟩ = Q5 := by rw [← hQ5, ← hQ4, ← hQ3, ← hQ2]; simp [encE, List.append_assoc]
        rw [hfin] at hnext hl3
        have Hnext := Lib.hid hnext
        have l4 : Q4.length ≤ 110000 := by have := hl3; rw [← hQ5] at this; simp only [List.length_append] at this; omega
        have l3 : Q3.length + 64 ≤ 110000 := by have := l4; rw [← hQ4] at this; simp only [List.length_append, id.2, key.2] at this; omega
        have l2 : Q2.length ≤ 110000 := by have := l3; rw [← hQ3] at this; simp only [List.length_append] at this; omega
        have L1 := Lib.hid (show (q ++ blind.1).length = q.length + 32 by simp only [List.length_append, blind.2])
        have L3 := Lib.hid (show (Q3 ++ id.1 ++ key.1).length = Q3.length + 32 + 32 by simp only [List.length_append, id.2, key.2])
        have HQ2 := Lib.hid hQ2
        have HQ3 := Lib.hid hQ3
        have HQ4 := Lib.hid hQ4
        have HQ5 := Lib.hid hQ5
        have r1 : Row (u8s blind.1) 32 := Row.u32 blind
        have r2 : Row (u8s id.1) 32 := Row.u32 id
        have r3 : Row (u8s key.1) 32 := Row.u32 key
        clear hnext hfin hQ2 hQ3 hQ4 hQ5 he hcs Hq o1 o2 o3 o5 o7 o8
        go_upto_region 8 with (first
          | (refine wl_at 19 rfl ?_; refine wl_reads rfl (ex_load_at _ _ rfl b (off + k * 100) rfl (enK ⟨blind, name, (kd : Int), id, key, (re : Int), (ep : Int)⟩) (enK_length _) (Hcs.out _ (h.sl (some ⟨b, off, none⟩) l.length c))) ?_)
          | (refine wl_at 6 rfl ?_; refine wl_runs rfl (ex_alloc h 87 rfl) ?_; clear h; rintro _ w ⟨g, rfl, h⟩)
          | (refine wl_none rfl ?_; refine wl_runs rfl (ex_store h _ _ _ rfl _ _ rfl (enK ⟨blind, name, (kd : Int), id, key, (re : Int), (ep : Int)⟩) rfl) ?_; clear h; rintro _ w ⟨rfl, h⟩; try dsimp only [Act.put])
          | (refine wl_at 23 rfl ?_; refine wl_runs rfl (ex_append h _ _ _ rfl A2 rfl (some ⟨g, 0, none⟩) 32 32 rfl (h.sl (some ⟨g, 0, none⟩) 32 32) (u8s_one _) (by simp [maxLen]; omega) (by omega)) ?_; clear h; rintro _ w ⟨A3, c3, rfl, h⟩; rw [u8s_append] at h))
        refine wp_region_K 10 (fun w' => St _ _ w' _) (by kernel_rfl) h.drew ?_; replace h := h.drew
        refine wpAnyK_pure 24 (v := ?_) (i := 0) (fuel := 9) rfl rfl (by kernel_rfl) (by kernel_rfl) (by kernel_rfl) (by decide) (fun _ _ _ h => h) (Or.inl ⟨by rfl, fun w _ => ?_⟩) ?_; rotate_left; (go_simp; with_reducible rfl); simp only [Act.put, List.setIfInBounds_toArray, List.set_cons_zero, List.set_cons_succ]
        refine wpAnyK_pure 25 (v := ?_) (i := 1) (fuel := 8) rfl rfl (by kernel_rfl) (by kernel_rfl) (by kernel_rfl) (by decide) (fun _ _ _ h => h) (Or.inl ⟨by rfl, fun w _ => ?_⟩) ?_; rotate_left; (go_simp; with_reducible rfl); simp only [Act.put, List.setIfInBounds_toArray, List.set_cons_zero, List.set_cons_succ]
        refine wpAnyK_load 26 (i := 2) (fuel := 7) rfl rfl (by kernel_rfl) (by kernel_rfl) (by kernel_rfl) (.inr (by decide)) (by decide) (fun _ _ _ h => h) rfl (fun w h => ex_load1 h _ _ rfl _ _ rfl) ?_; simp only [Act.put, List.setIfInBounds_toArray, List.set_cons_zero, List.set_cons_succ]
        refine wpAnyK_pure 29 (v := ?_) (i := 5) (fuel := 6) rfl rfl (by kernel_rfl) (by kernel_rfl) (by kernel_rfl) (by decide) (fun _ _ _ h => h) (Or.inl ⟨by rfl, fun w _ => ?_⟩) ?_; rotate_left; (go_simp; with_reducible rfl); simp only [Act.put, List.setIfInBounds_toArray, List.set_cons_zero, List.set_cons_succ]
        refine wpAnyK_load 30 (i := 6) (fuel := 5) rfl rfl (by kernel_rfl) (by kernel_rfl) (by kernel_rfl) (.inr (by decide)) (by decide) (fun _ _ _ h => h) rfl (fun w h => ex_load1 h _ _ rfl _ _ rfl) ?_; simp only [Act.put, List.setIfInBounds_toArray, List.set_cons_zero, List.set_cons_succ]
        refine wpAnyK_pure 31 (v := ?_) (i := 7) (fuel := 4) rfl rfl (by kernel_rfl) (by kernel_rfl) (by kernel_rfl) (by decide) (fun _ _ _ h => h) (Or.inl ⟨by rfl, fun w _ => ?_⟩) ?_; rotate_left; (go_simp; with_reducible rfl); simp only [Act.put, List.setIfInBounds_toArray, List.set_cons_zero, List.set_cons_succ]
        refine wpAnyK_one (i := 3) (fuel := 3) rfl (by kernel_rfl) rfl (fun K hK => ?_)
        refine op_runs (some 27) rfl (ex_bytes h _ _ _ rfl Try.underlying9 Try.underlying5 name rfl (by simp [maxLen]; omega)) ?_; clear h; rintro _ w ⟨gt, ct, rfl, h⟩; refine hK.out _ _ (fun _ => h.to) ?_; clear hK K
        try simp only [Act.put, List.setIfInBounds_toArray, List.set_cons_zero, List.set_cons_succ]
        refine wpAnyK_one (i := 4) (fuel := 2) rfl (by kernel_rfl) rfl (fun K hK => ?_)
        (go_simp; go_wp2_with (go_at_call 58; refine (rn_text (l := q ++ blind.1) (t := name) h (by omega) (by omega)).mono ?_; rw [HQ2.out]; clear h; rintro e w ⟨A4, c4, rfl, h⟩)); refine hK.out _ _ (fun _ => h.to) ?_; clear hK K
        try simp only [Act.put, List.setIfInBounds_toArray, List.set_cons_zero, List.set_cons_succ]
        refine wpAnyK_one (i := 8) (fuel := 1) rfl (by kernel_rfl) rfl (fun K hK => ?_)
        (go_simp; rw [wrap_u64 (by omega)]; go_wp2_with (go_at_call 57; refine (rn_n (l := Q2) (n := kd) h (by omega) (by omega)).mono ?_; rw [HQ3.out]; clear h; rintro e w ⟨A5, c5, rfl, h⟩)); refine hK.out _ _ (fun _ => h.to) ?_; clear hK K
        try simp only [Act.put, List.setIfInBounds_toArray, List.set_cons_zero, List.set_cons_succ]
        refine wpAnyK_pure 4 (v := ?_) (i := 9) (fuel := 0) rfl rfl (by kernel_rfl) (by kernel_rfl) (by kernel_rfl) (by decide) (fun _ _ _ h => h) (Or.inl ⟨by rfl, fun w _ => ?_⟩) ?_; rotate_left; (go_simp; with_reducible rfl); simp only [Act.put, List.setIfInBounds_toArray, List.set_cons_zero, List.set_cons_succ]
        refine wpAnyK_done (by kernel_rfl) ?_
        go_wp2_with fail
        refine wp_region_K 3 (fun w' => St _ _ w' _) (by kernel_rfl) h.drew ?_; replace h := h.drew
        refine wpAnyK_pure 33 (v := ?_) (i := 0) (fuel := 7) rfl rfl (by kernel_rfl) (by kernel_rfl) (by kernel_rfl) (by decide) (fun _ _ _ h => h) (Or.inl ⟨by rfl, fun w _ => ?_⟩) ?_; rotate_left; (go_simp; with_reducible rfl); simp only [Act.put, List.setIfInBounds_toArray, List.set_cons_zero, List.set_cons_succ]
        refine wpAnyK_pure 34 (v := ?_) (i := 1) (fuel := 6) rfl rfl (by kernel_rfl) (by kernel_rfl) (by kernel_rfl) (by decide) (fun _ _ _ h => h) (Or.inl ⟨by rfl, fun w _ => ?_⟩) ?_; rotate_left; (go_simp; with_reducible rfl); simp only [Act.put, List.setIfInBounds_toArray, List.set_cons_zero, List.set_cons_succ]
        refine wpAnyK_pure 35 (v := ?_) (i := 2) (fuel := 5) rfl rfl (by kernel_rfl) (by kernel_rfl) (by kernel_rfl) (by decide) (fun _ _ _ h => h) (Or.inl ⟨by rfl, fun w _ => ?_⟩) ?_; rotate_left; (go_simp; with_reducible rfl); simp only [Act.put, List.setIfInBounds_toArray, List.set_cons_zero, List.set_cons_succ]
        refine wpAnyK_pure 37 (v := ?_) (i := 4) (fuel := 4) rfl rfl (by kernel_rfl) (by kernel_rfl) (by kernel_rfl) (by decide) (fun _ _ _ h => h) (Or.inl ⟨by rfl, fun w _ => ?_⟩) ?_; rotate_left; (go_simp; with_reducible rfl); simp only [Act.put, List.setIfInBounds_toArray, List.set_cons_zero, List.set_cons_succ]
        refine wpAnyK_pure 38 (v := ?_) (i := 5) (fuel := 3) rfl rfl (by kernel_rfl) (by kernel_rfl) (by kernel_rfl) (by decide) (fun _ _ _ h => h) (Or.inl ⟨by rfl, fun w _ => ?_⟩) ?_; rotate_left; (go_simp; with_reducible rfl); simp only [Act.put, List.setIfInBounds_toArray, List.set_cons_zero, List.set_cons_succ]
        refine wpAnyK_one (i := 3) (fuel := 2) rfl (by kernel_rfl) rfl (fun K hK => ?_)
        refine op_runs (some 36) rfl (ex_append h _ _ _ rfl A5 rfl (some ⟨g, 34, none⟩) 32 32 rfl (h.sl (some ⟨g, 34, none⟩) 32 32) (u8s_one _) (by simp [maxLen]; omega) (by omega)) ?_; clear h; rintro _ w ⟨A6, c6, rfl, h⟩; rw [u8s_append] at h; refine hK.out _ _ (SJ.past (by kernel_rfl)) ?_; clear hK K
        try simp only [Act.put, List.setIfInBounds_toArray, List.set_cons_zero, List.set_cons_succ]
        refine wpAnyK_one (i := 6) (fuel := 1) rfl (by kernel_rfl) rfl (fun K hK => ?_)
        refine op_runs (some 39) rfl (ex_append h _ _ _ rfl A6 rfl (some ⟨g, 66, none⟩) 32 32 rfl (h.sl (some ⟨g, 66, none⟩) 32 32) (u8s_one _) (by simp [maxLen]; omega) (by omega)) ?_; clear h; rintro _ w ⟨A7, c7, rfl, h⟩; rw [u8s_append] at h; refine hK.out _ _ (SJ.past (by kernel_rfl)) ?_; clear hK K
        try simp only [Act.put, List.setIfInBounds_toArray, List.set_cons_zero, List.set_cons_succ]
        refine wpAnyK_pure 4 (v := ?_) (i := 7) (fuel := 0) rfl rfl (by kernel_rfl) (by kernel_rfl) (by kernel_rfl) (by decide) (fun _ _ _ h => h) (Or.inl ⟨by rfl, fun w _ => ?_⟩) ?_; rotate_left; (go_simp; with_reducible rfl); simp only [Act.put, List.setIfInBounds_toArray, List.set_cons_zero, List.set_cons_succ]
        refine wpAnyK_done (by kernel_rfl) ?_
        go_wp2_with fail
        refine wp_region_K 10 (fun w' => St _ _ w' _) (by kernel_rfl) h.drew ?_; replace h := h.drew
        refine wpAnyK_pure 40 (v := ?_) (i := 0) (fuel := 9) rfl rfl (by kernel_rfl) (by kernel_rfl) (by kernel_rfl) (by decide) (fun _ _ _ h => h) (Or.inl ⟨by rfl, fun w _ => ?_⟩) ?_; rotate_left; (go_simp; with_reducible rfl); simp only [Act.put, List.setIfInBounds_toArray, List.set_cons_zero, List.set_cons_succ]
        refine wpAnyK_pure 41 (v := ?_) (i := 1) (fuel := 8) rfl rfl (by kernel_rfl) (by kernel_rfl) (by kernel_rfl) (by decide) (fun _ _ _ h => h) (Or.inl ⟨by rfl, fun w _ => ?_⟩) ?_; rotate_left; (go_simp; with_reducible rfl); simp only [Act.put, List.setIfInBounds_toArray, List.set_cons_zero, List.set_cons_succ]
        refine wpAnyK_load 42 (i := 2) (fuel := 7) rfl rfl (by kernel_rfl) (by kernel_rfl) (by kernel_rfl) (.inr (by decide)) (by decide) (fun _ _ _ h => h) rfl (fun w h => ex_load1 h _ _ rfl _ _ rfl) ?_; simp only [Act.put, List.setIfInBounds_toArray, List.set_cons_zero, List.set_cons_succ]
        refine wpAnyK_pure 43 (v := ?_) (i := 3) (fuel := 6) rfl rfl (by kernel_rfl) (by kernel_rfl) (by kernel_rfl) (by decide) (fun _ _ _ h => h) (Or.inl ⟨by rfl, fun w _ => ?_⟩) ?_; rotate_left; (go_simp; with_reducible rfl); simp only [Act.put, List.setIfInBounds_toArray, List.set_cons_zero, List.set_cons_succ]
        refine wpAnyK_pure 45 (v := ?_) (i := 5) (fuel := 5) rfl rfl (by kernel_rfl) (by kernel_rfl) (by kernel_rfl) (by decide) (fun _ _ _ h => h) (Or.inl ⟨by rfl, fun w _ => ?_⟩) ?_; rotate_left; (go_simp; with_reducible rfl); simp only [Act.put, List.setIfInBounds_toArray, List.set_cons_zero, List.set_cons_succ]
        refine wpAnyK_load 46 (i := 6) (fuel := 4) rfl rfl (by kernel_rfl) (by kernel_rfl) (by kernel_rfl) (.inr (by decide)) (by decide) (fun _ _ _ h => h) rfl (fun w h => ex_load1 h _ _ rfl _ _ rfl) ?_; simp only [Act.put, List.setIfInBounds_toArray, List.set_cons_zero, List.set_cons_succ]
        refine wpAnyK_pure 47 (v := ?_) (i := 7) (fuel := 3) rfl rfl (by kernel_rfl) (by kernel_rfl) (by kernel_rfl) (by decide) (fun _ _ _ h => h) (Or.inl ⟨by rfl, fun w _ => ?_⟩) ?_; rotate_left; (go_simp; with_reducible rfl); simp only [Act.put, List.setIfInBounds_toArray, List.set_cons_zero, List.set_cons_succ]
        refine wpAnyK_one (i := 4) (fuel := 2) rfl (by kernel_rfl) rfl (fun K hK => ?_)
        (go_simp; rw [wrap_u64 (by omega)]; go_wp2_with (go_at_call 57; refine (rn_n (l := Q3 ++ id.1 ++ key.1) (n := re) h (by omega) (by omega)).mono ?_; rw [HQ4.out]; clear h; rintro e w ⟨A8, c8, rfl, h⟩)); refine hK.out _ _ (fun _ => h.to) ?_; clear hK K
        try simp only [Act.put, List.setIfInBounds_toArray, List.set_cons_zero, List.set_cons_succ]
        refine wpAnyK_one (i := 8) (fuel := 1) rfl (by kernel_rfl) rfl (fun K hK => ?_)
        (go_simp; rw [wrap_u64 (by omega)]; go_wp2_with (go_at_call 57; refine (rn_n (l := Q4) (n := ep) h (by omega) (by omega)).mono ?_; rw [HQ5.out]; clear h; rintro e w ⟨A9, c9, rfl, h⟩)); refine hK.out _ _ (fun _ => h.to) ?_; clear hK K
        try simp only [Act.put, List.setIfInBounds_toArray, List.set_cons_zero, List.set_cons_succ]
        refine wpAnyK_pure 4 (v := ?_) (i := 9) (fuel := 0) rfl rfl (by kernel_rfl) (by kernel_rfl) (by kernel_rfl) (by decide) (fun _ _ _ h => h) (Or.inl ⟨by rfl, fun w _ => ?_⟩) ?_; rotate_left; (go_simp; with_reducible rfl); simp only [Act.put, List.setIfInBounds_toArray, List.set_cons_zero, List.set_cons_succ]
        refine wpAnyK_done (by kernel_rfl) ?_
        go_wp2
        refine ⟨⟨k + 1, A9, c9, Q5, rfl, by push_cast; rfl, by omega, hl3, Hnext, h.to⟩, ?_⟩
        simp only [intOf]
        omega
      · obtain rfl : k = l.length := by omega
        have hkk : ¬ ((l.length : Int) < (l.length : Int)) := by omega
        have hfin := Hq.out
        rw [upB_all] at hfin
        have Hfin := Lib.hid hfin
        clear hkl hfin
        go_wp2
        go_ret2
        rw [Hfin.out]
        exact ⟨A2, c2, rfl, h.to⟩
  · have e1 : doutM l = [] := by rw [doutM, if_neg hok]
    have e2 : doutC l = 110 := by rw [doutC, if_neg hok]
    have Hok := Lib.hid (Bool.eq_false_iff.2 hok)
    have Hnm := Lib.hid hnm
    rw [e1, e2]
    clear e1 e2 hok ho hnm
    go_enter Try.func16, Try.ntmps16
    go_wp2_with (go_at_call 18; refine (dir_good_ref h Hnm.out).mono ?_; rw [Hok.out]; clear h; rintro r w ⟨rfl, h⟩)
    go_ret2
    have h6 : St S w0 _ (eOwn 5 1 none 0 0 [] :: L) := (h.nilRow 5 1).to
    exact ⟨none, 0, rfl, h6⟩
end Go.Proofs.Ytnokgejmlpmgfaa
