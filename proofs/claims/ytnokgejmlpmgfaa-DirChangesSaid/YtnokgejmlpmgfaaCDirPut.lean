/- Directories as bytes: the code. -/
import Derived.Test.YtnokgejmlpmgfaaCDirUp
import Derived.Test.YtnokgejmlpmgfaaCDirGood2
import Derived.Test.YtnokgejmlpmgfaaCRefW
import Derived.Test.YtnokgejmlpmgfaaCWr
namespace Go.Proofs.Ytnokgejmlpmgfaa
open Go.RowKit
set_option linter.unusedVariables false
set_option linter.unusedSimpArgs false

set_option maxRecDepth 100000 in
set_option maxHeartbeats 4000000 in
theorem dput_code {S : Nat → Prop} {w0 w : World} {L : List Ent} {A : Option Addr} {c : Nat} {l : List En} (h : St S w0 w L) [ka : HasSl L A l.length c 100 (l.flatMap enK)] (ho : ∀ e ∈ l, EnOk e) :
    Calls Try.prog 15 #[.slice A l.length c] w fun e w' => ∃ A' c', e = .returned (.tuple #[.slice A' (doutM l).length c', .int .i64 (doutC l)]) ∧ St S w0 w' (eOwn 5 1 A' (doutM l).length c' (u8s (doutM l)) :: L) := by
  by_cases hok : dirM l = true
  · have e1 : doutM l = dirB l := by rw [doutM, if_pos hok]
    have e2 : doutC l = 0 := by rw [doutC, if_pos hok]
    have hl := (dirM_spec hok).1
    have henB := dirM_enB hok ho
    have Hlen := Lib.hid (upB_len henB hl)
    have HenB := Lib.hid henB
    have Hok := Lib.hid hok
    have Hnm := Lib.hid (fun e he => (ho e he).2.2.2.2.2.2 : ∀ e ∈ l, e.name.length ≤ maxLen)
    have hw := wrap_u64 (n := l.length) (by omega)
    rw [e1, e2]
    have H0 := Lib.hid (show [] ++ [l.length].flatMap nM = upB l 0 by simp [upB_zero])
    have hn0 := nM_ten (n := l.length) (by omega)
    clear e1 e2 henB hok ho
    go_enter Try.func15, Try.ntmps15
    go_wp2_with (first
      | (go_at_call 17; refine (dir_good h Hnm.out).mono ?_; rw [Hok.out]; clear h; rintro r w ⟨rfl, h⟩)
      | (refine wl_at 11 rfl ?_; refine wl_runs rfl (ex_box h 111 _ rfl _ rfl) ?_; clear h; rintro _ w ⟨gw, rfl, h⟩; replace h := St.newWr h gw)
      | (refine wl_at 10 rfl ?_; refine wl_reads rfl (ex_lit0 _ rfl) ?_)
      | (refine wl_at 16 rfl ?_; refine wl_runs rfl (ex_slice1i h _ _ rfl .u64 (l.length : Int) rfl) ?_; clear h; rintro _ w ⟨gq, rfl, h⟩)
      | (go_at_call 53; refine (ww_n (l := [l.length]) h (h.sl (some ⟨gq, 0, none⟩) 1 1) (by simp; omega) (by simp)).mono ?_; rw [H0.out]; clear h; rintro e w ⟨⟨v4, rfl⟩, F4, h⟩))
    clear hw
    go_loopw [20] (fun i wr => ∃ (k : Nat) (F1 : Nat → Prop) (q : List UInt8), i = .int .i64 (k : Int) ∧ k ≤ l.length ∧ q.length ≤ 110000 ∧ Hid (upB l k = q) ∧ St S w0 wr (eWr gw F1 q :: L)) (fun i _ => l.length - (intOf i).toNat)
    case atStart => exact ⟨0, F4, _, rfl, Nat.zero_le _, Hlen.out 0, Lib.hid rfl, h.to⟩
    case round =>
      clear h
      obtain ⟨k, F1, q, rfl, hk, hq, Hq, h⟩ := hrel
      by_cases hkl : k < l.length
      · have f2 : (k : Int) < (l.length : Int) := by omega
        have t1 : ((k : Int)).toNat = k := by omega
        obtain ⟨e, he⟩ : ∃ e, l[k] = e := ⟨_, rfl⟩
        have hB := HenB.out e (by rw [← he]; exact List.getElem_mem _)
        obtain ⟨b, off, rfl, _⟩ := (h.sl A l.length c).pos (by omega)
        have hcs : ∀ {w}, Sl w (some ⟨b, off, none⟩) l.length c 100 (l.flatMap enK) → Cells w b (off + k * 100) (enK e) := fun hs => by rw [← he]; exact hs.elemAt enK_length hkl (by omega)
        have Hcs : Hid (∀ w, Sl w (some ⟨b, off, none⟩) l.length c 100 (l.flatMap enK) → Cells w b (off + k * 100) (enK e)) := Lib.hid (fun w hs => hcs hs)
        have hnext := upB_next hkl he
        rw [Hq.out] at hnext
        have hl3 := Hlen.out (k + 1)
        rw [hnext] at hl3
        obtain ⟨blind, name, kind, id, key, realm, epoch⟩ := e
        obtain ⟨⟨o1, o2, o3, o4, o5, o6, o7⟩, o8, o9, o10⟩ := hB
        simp only at o1 o2 o3 o4 o5 o6 o7 o8 o9 o10
        obtain ⟨kd, rfl⟩ := Int.eq_ofNat_of_zero_le o8
        obtain ⟨re, rfl⟩ := Int.eq_ofNat_of_zero_le o3
        obtain ⟨ep, rfl⟩ := Int.eq_ofNat_of_zero_le o5
        obtain ⟨Q1, hQ1⟩ : ∃ Q1, q ++ blind.1 = Q1 := ⟨_, rfl⟩
        obtain ⟨Q2, hQ2⟩ : ∃ Q2, Q1 ++ nM name.length ++ name = Q2 := ⟨_, rfl⟩
        obtain ⟨Q3, hQ3⟩ : ∃ Q3, Q2 ++ [kd].flatMap nM = Q3 := ⟨_, rfl⟩
        obtain ⟨Q4, hQ4⟩ : ∃ Q4, Q3 ++ id.1 = Q4 := ⟨_, rfl⟩
        obtain ⟨Q5, hQ5⟩ : ∃ Q5, Q4 ++ key.1 = Q5 := ⟨_, rfl⟩
        obtain ⟨Q6, hQ6⟩ : ∃ Q6, Q5 ++ [re, ep].flatMap nM = Q6 := ⟨_, rfl⟩
        have hfin : q ++ encE ⟨blind, name, (kd : Int), id, key, (re : Int), (ep : Int)⟩ = Q6 := by rw [← hQ6, ← hQ5, ← hQ4, ← hQ3, ← hQ2, ← hQ1]; simp [encE, List.append_assoc]
        rw [hfin] at hnext hl3
        have Hnext := Lib.hid hnext
        have l5 : Q5.length ≤ 110000 := by have := hl3; rw [← hQ6] at this; simp only [List.length_append] at this; omega
        have l4 : Q4.length ≤ 110000 := by have := l5; rw [← hQ5] at this; simp only [List.length_append] at this; omega
        have l3 : Q3.length ≤ 110000 := by have := l4; rw [← hQ4] at this; simp only [List.length_append] at this; omega
        have l2 : Q2.length ≤ 110000 := by have := l3; rw [← hQ3] at this; simp only [List.length_append] at this; omega
        have l1 : Q1.length ≤ 110000 := by have := l2; rw [← hQ2] at this; simp only [List.length_append] at this; omega
        have HQ1 := Lib.hid hQ1
        have HQ2 := Lib.hid hQ2
        have HQ3 := Lib.hid hQ3
        have HQ4 := Lib.hid hQ4
        have HQ5 := Lib.hid hQ5
        have HQ6 := Lib.hid hQ6
        have q1 := Lib.hid blind.2
        have q2 := Lib.hid id.2
        have q3 := Lib.hid key.2
        have r1 : Row (u8s blind.1) 32 := Row.u32 blind
        have r2 : Row (u8s id.1) 32 := Row.u32 id
        have r3 : Row (u8s key.1) 32 := Row.u32 key
        have hwk := wrap_u64 (n := kd) (by omega)
        have hwr := wrap_u64 (n := re) (by omega)
        have hwe := wrap_u64 (n := ep) (by omega)
        clear hnext hfin hQ1 hQ2 hQ3 hQ4 hQ5 hQ6 he hcs Hq o1 o2 o3 o5 o7 o8
        go_wp2_with (first
          | (refine wl_at 23 rfl ?_; refine wl_reads rfl (ex_load_at _ _ rfl b (off + k * 100) rfl (enK ⟨blind, name, (kd : Int), id, key, (re : Int), (ep : Int)⟩) (enK_length _) (Hcs.out _ (h.sl (some ⟨b, off, none⟩) l.length c))) ?_)
          | (refine wl_at 6 rfl ?_; refine wl_runs rfl (ex_alloc h 87 rfl) ?_; clear h; rintro _ w ⟨g, rfl, h⟩)
          | (refine wl_none rfl ?_; refine wl_runs rfl (ex_store h _ _ _ rfl _ _ rfl (enK ⟨blind, name, (kd : Int), id, key, (re : Int), (ep : Int)⟩) rfl) ?_; clear h; rintro _ w ⟨rfl, h⟩; try dsimp only [Act.put])
          | (refine wl_at 30 rfl ?_; refine wl_reads rfl (ex_loadv h _ _ rfl _ _ rfl) ?_)
          | (refine wl_at 36 rfl ?_; refine wl_reads rfl (ex_loadv h _ _ rfl _ _ rfl) ?_)
          | (refine wl_at 50 rfl ?_; refine wl_reads rfl (ex_loadv h _ _ rfl _ _ rfl) ?_)
          | (refine wl_at 53 rfl ?_; refine wl_reads rfl (ex_loadv h _ _ rfl _ _ rfl) ?_)
          | (refine wl_at 31 rfl ?_; refine wl_runs rfl (ex_bytes h _ _ _ rfl Try.underlying9 Try.underlying5 name rfl (by simp [maxLen]; omega)) ?_; clear h; rintro _ w ⟨gt, ct, rfl, h⟩)
          | (refine wl_at 32 rfl ?_; refine wl_runs rfl (ex_slice1s h _ _ rfl _ _ _ rfl) ?_; clear h; rintro _ w ⟨gs, rfl, h⟩)
          | (refine wl_at 38 rfl ?_; refine wl_runs rfl (ex_slice1i h _ _ rfl .u64 (kd : Int) rfl) ?_; clear h; rintro _ w ⟨gk, rfl, h⟩)
          | (refine wl_at 55 rfl ?_; refine wl_runs rfl (ex_sliceN h _ 2 _ rfl [(.int .u64 (re : Int), [.int .u64 (re : Int)]), (.int .u64 (ep : Int), [.int .u64 (ep : Int)])] rfl rfl (by simp [Value.cells]) (by decide) (by decide)) ?_; clear h; rintro _ w ⟨gp, rfl, h⟩; replace h : St _ _ w (eBlk gp 113 [.int .u64 (re : Int), .int .u64 (ep : Int)] :: _) := h)
          | (have q := HQ1.out; clear HQ1; go_at_call 54; refine (ww_raw (l := blind.1) (A := some ⟨g, 0, none⟩) h (by rw [q1.out]; omega)).mono ?_; rw [q]; clear h q; rintro e w ⟨⟨v1, rfl⟩, F5, h⟩)
          | (go_at_call 55; refine (ww_text (t := name) h (h.sl (some ⟨gs, 0, none⟩) 1 1) (by omega)).mono ?_; rw [HQ2.out]; clear h; rintro e w ⟨⟨v5, rfl⟩, F6, h⟩)
          | (have q := HQ3.out; clear HQ3; go_at_call 53; refine (ww_n (l := [kd]) h (h.sl (some ⟨gk, 0, none⟩) 1 1) (by simp; omega) (by simp; omega)).mono ?_; rw [q]; clear h q; rintro e w ⟨⟨v6, rfl⟩, F7, h⟩)
          | (have q := HQ4.out; clear HQ4; go_at_call 54; refine (ww_raw (l := id.1) (A := some ⟨g, 34, none⟩) h (by rw [q2.out]; omega)).mono ?_; rw [q]; clear h q; rintro e w ⟨⟨v7, rfl⟩, F8, h⟩)
          | (have q := HQ5.out; clear HQ5; go_at_call 54; refine (ww_raw (l := key.1) (A := some ⟨g, 66, none⟩) h (by rw [q3.out]; omega)).mono ?_; rw [q]; clear h q; rintro e w ⟨⟨v8, rfl⟩, F9, h⟩)
          | (go_at_call 53; refine (ww_n (l := [re, ep]) h (h.sl (some ⟨gp, 0, none⟩) 2 2) (by simp; omega) (by simp; omega)).mono ?_; rw [HQ6.out]; clear h; rintro e w ⟨⟨v9, rfl⟩, F10, h⟩))
        refine ⟨⟨k + 1, F10, Q6, by push_cast; rfl, by omega, hl3, Hnext, h.to⟩, ?_⟩
        simp only [intOf]
        omega
      · obtain rfl : k = l.length := by omega
        have hkk : ¬ ((l.length : Int) < (l.length : Int)) := by omega
        have hfin := Hq.out
        rw [upB_all] at hfin
        have Hfin := Lib.hid hfin
        clear hkl hfin
        go_wp2_with (go_at_call 56; refine (ww_bytes h (by omega)).mono ?_; clear h; rintro e w ⟨A6, c6, rfl, h⟩)
        go_ret2
        rw [Hfin.out]
        exact ⟨A6, c6, rfl, h.to⟩
  · have e1 : doutM l = [] := by rw [doutM, if_neg hok]
    have e2 : doutC l = 110 := by rw [doutC, if_neg hok]
    have Hok := Lib.hid (Bool.eq_false_iff.2 hok)
    have Hnm := Lib.hid (fun e he => (ho e he).2.2.2.2.2.2 : ∀ e ∈ l, e.name.length ≤ maxLen)
    rw [e1, e2]
    clear e1 e2 hok ho
    go_enter Try.func15, Try.ntmps15
    go_wp2_with (go_at_call 17; refine (dir_good h Hnm.out).mono ?_; rw [Hok.out]; clear h; rintro r w ⟨rfl, h⟩)
    go_ret2
    have h6 : St S w0 _ (eOwn 5 1 none 0 0 [] :: L) := (h.nilRow 5 1).to
    exact ⟨none, 0, rfl, h6⟩
end Go.Proofs.Ytnokgejmlpmgfaa
