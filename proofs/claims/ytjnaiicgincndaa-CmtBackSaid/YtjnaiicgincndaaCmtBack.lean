/- The law CmtBack: what is put is read as it was; what is read is put as it was. -/
import Derived.Test.YtjnaiicgincndaaCmtReads
import Derived.Test.YtjnaiicgincndaaCmtPut
import Derived.Test.YtjnaiicgincndaaOpenCmt
namespace Go.Proofs.Ytjnaiicgincndaa
open Go.RowKit
set_option linter.unusedVariables false
set_option linter.unusedSimpArgs false

theorem few_cmt2 {w : World} {x : Cmt} {A : Option Addr} {n c : Nat} :
    Calls Try.prog 17 #[.agg (cmtK A n c x).toArray] w fun e w' => e = .returned (.bool (decide (n ≤ 10) && decide (x.text.length ≤ 5000))) ∧ Step (fun _ => False) w w' := by
  have := few_cmt (w := w) (x := x) (A := A) (n := n) (c := c)
  rwa [cmtc_eq] at this
theorem coutM_len {m : Cmt} (ho : CmtOk m) : (coutM m).length ≤ 10000 := by
  unfold coutM
  split
  · rename_i h; exact cmtB_len h ho
  · simp

set_option maxRecDepth 100000 in
set_option maxHeartbeats 4000000 in
theorem walk_CmtBack0 {w : World} {m : Cmt} {A : Option Addr} {c : Nat} (ha : Sl w A m.pa.length c 32 (m.pa.flatMap idc)) (ho : CmtOk m) {l : List UInt8} {D : Option Addr} {q f : Nat} (hl : Sl w D q f 1 (u8s l)) :
    Calls Try.prog 4 #[.agg (cmtK A m.pa.length c m).toArray, .slice D q f] w fun r w' => r = .returned (.bool true) ∧ Below w.heap.size w w' := by
  have h := (St.read0 hl (by omega)).reading ha (by omega) (fun k hk => ⟨ha.ft_lt (by omega) hk, id⟩)
  obtain ⟨pa, root, key, seq, author, text⟩ := m
  simp only at h ⊢
  clear hl ha
  have Hok := Lib.hid ho
  have rr : Row (u8s root.1) 32 := Row.u32 root
  have rk : Row (u8s key.1) 32 := Row.u32 key
  obtain ⟨fw, hfw⟩ : ∃ fw, (decide (pa.length ≤ 10) && decide (text.length ≤ 5000)) = fw := ⟨_, rfl⟩
  have Hf := Lib.hid hfw
  cases fw with
  | false =>
    clear hfw
    go_enter Try.func4, Try.ntmps4
    go_wp2_with (first
      | (go_at_call 13; refine (cmt_awake _).mono ?_; rintro r w ⟨rfl, hs⟩; replace h := h.quiet hs; clear hs) | (refine wl_runs rfl (ex_box h 31 _ rfl (c_api_Commit _ _ _ _ _ _) rfl) ?_; clear h; rintro _ w ⟨g0, rfl, h⟩) | (go_at_call 17; refine (few_cmt2 (x := ⟨pa, root, key, seq, author, text⟩)).mono ?_; rintro r w ⟨rfl, hs⟩; rw [Hf.out]; replace h := h.quiet hs; clear hs) | (have q := Ho1.out; clear Ho1; go_at_call 18; refine (cput_code (m := ⟨pa, root, key, seq, author, text⟩) (A := A) (c := c) h (by show pa.length ≤ _; omega) (by show text.length ≤ _; omega) Hok.out).mono ?_; rw [q, Hc1.out]; clear h q; rintro e w ⟨A1, c1, rfl, h⟩) | (have q := HO1.out; clear HO1; go_at_call 14; refine (cmt_of (A := A1) (n := out1.length) (c := c1) (l := out1) h (by omega)).mono ?_; rw [q, HE1.out, HC1.out]; clear h q; rintro e w ⟨A2, c2, rfl, h⟩) | (go_at_call 14; refine (cmt_of (A := D) (n := q) (c := f) (l := l) h (by omega)).mono ?_; rw [HO2.out, HE2.out, HC2.out]; clear h; rintro e w ⟨A3, c3, rfl, h⟩) | (clear tr; refine wl_runs rfl (ex_alloc h 31 rfl) ?_; clear h; rintro _ w ⟨g1, rfl, h⟩) | (refine wl_runs rfl (ex_alloc h 31 rfl) ?_; clear h; rintro _ w ⟨g2, rfl, h⟩) | (refine wl_runs rfl (ex_store h _ _ _ rfl _ _ rfl (c_api_Commit _ _ _ _ _ _) rfl) ?_; clear h; rintro _ w ⟨rfl, h⟩; try dsimp only [Act.put]) | (go_at_call 18; refine (cput_code (m := ⟨pa2, root2, key2, seq2, author2, text2⟩) (A := A3) (c := c3) h (by show pa2.length ≤ _; omega) (by show text2.length ≤ _; omega) Hok2.out).mono ?_; rw [Ho2.out, Hc2.out]; clear h; rintro e w ⟨A4, c4, rfl, h⟩) | (go_at_call 16; refine (same_cmt (m := ⟨pa, root, key, seq, author, text⟩) (n := 0) (h.sl A2 pa.length c2) (h.sl A pa.length c) (by show pa.length ≤ _; omega)).mono ?_; rintro e w ⟨rfl, hs⟩; replace h := h.quiet hs; clear hs) | (refine wl_reads rfl (ex_string _ _ _ rfl Try.underlying5 Try.underlying9 A4 out2.length c4 rfl (h.sl A4 out2.length c4)) ?_) | (refine wl_reads rfl (ex_string _ _ _ rfl Try.underlying5 Try.underlying9 D q f rfl (h.sl D q f)) ?_)
      | (refine wl_reads rfl (ex_loadv h _ _ rfl _ _ rfl) ?_) | (refine wl_runs rfl (ex_store1i h _ _ _ rfl _ _ rfl _ _ rfl) ?_; clear h; rintro _ w ⟨rfl, h⟩; try dsimp only [Act.put]) | (refine wl_runs rfl (ex_store1s h _ _ _ rfl _ _ rfl _ _ _ rfl) ?_; clear h; rintro _ w ⟨rfl, h⟩; try dsimp only [Act.put]) | (refine wl_runs rfl (ex_store1b h _ _ _ rfl _ _ rfl _ rfl) ?_; clear h; rintro _ w ⟨rfl, h⟩; try dsimp only [Act.put]) | (refine wl_runs rfl (ex_store1t h _ _ _ rfl _ _ rfl _ rfl) ?_; clear h; rintro _ w ⟨rfl, h⟩; try dsimp only [Act.put]) | (refine wl_runs rfl (ex_store1p h _ _ _ rfl _ _ rfl _ rfl) ?_; clear h; rintro _ w ⟨rfl, h⟩; try dsimp only [Act.put]) | (refine wl_runs rfl (ex_store1m h _ _ _ rfl _ _ rfl _ rfl) ?_; clear h; rintro _ w ⟨rfl, h⟩; try dsimp only [Act.put]) | (refine wl_runs rfl (ex_store h _ _ _ rfl _ _ rfl _ rfl) ?_; clear h; rintro _ w ⟨rfl, h⟩; try dsimp only [Act.put]) | (refine wl_runs rfl (ex_alloc h _ rfl) ?_; clear h; rintro _ w ⟨g, rfl, h⟩) | (refine wl_runs rfl (ex_box h _ _ rfl _ rfl) ?_; clear h; rintro _ w ⟨g, rfl, h⟩) | (refine wl_runs rfl (ex_box1i h _ _ rfl _ _ rfl) ?_; clear h; rintro _ w ⟨g, rfl, h⟩) | (refine wl_runs rfl (ex_box1s h _ _ rfl _ _ _ rfl) ?_; clear h; rintro _ w ⟨g, rfl, h⟩) | (refine wl_runs rfl (ex_box1b h _ _ rfl _ rfl) ?_; clear h; rintro _ w ⟨g, rfl, h⟩) | (refine wl_runs rfl (ex_box1t h _ _ rfl _ rfl) ?_; clear h; rintro _ w ⟨g, rfl, h⟩) | (refine wl_runs rfl (ex_box1p h _ _ rfl _ rfl) ?_; clear h; rintro _ w ⟨g, rfl, h⟩) | (refine wl_runs rfl (ex_box1m h _ _ rfl _ rfl) ?_; clear h; rintro _ w ⟨g, rfl, h⟩) | (refine wl_runs rfl (ex_slice1 h _ _ rfl _ rfl) ?_; clear h; rintro _ w ⟨g, rfl, h⟩) | (refine wl_runs rfl (ex_slice1i h _ _ rfl _ _ rfl) ?_; clear h; rintro _ w ⟨g, rfl, h⟩) | (refine wl_runs rfl (ex_slice1s h _ _ rfl _ _ _ rfl) ?_; clear h; rintro _ w ⟨g, rfl, h⟩) | (refine wl_runs rfl (ex_slice1b h _ _ rfl _ rfl) ?_; clear h; rintro _ w ⟨g, rfl, h⟩) | (refine wl_runs rfl (ex_slice1t h _ _ rfl _ rfl) ?_; clear h; rintro _ w ⟨g, rfl, h⟩) | (refine wl_runs rfl (ex_slice1p h _ _ rfl _ rfl) ?_; clear h; rintro _ w ⟨g, rfl, h⟩) | (refine wl_runs rfl (ex_slice1m h _ _ rfl _ rfl) ?_; clear h; rintro _ w ⟨g, rfl, h⟩) | (refine wl_reads rfl (ex_lit0 _ rfl) ?_))
    go_ret
    exact ⟨rfl, h.step.below⟩
  | true =>
    have hb : pa.length ≤ 10 ∧ text.length ≤ 5000 := by simpa using hfw
    obtain ⟨hn, hm⟩ := hb
    clear hfw
    by_cases hq : q ≤ 5000
    · obtain ⟨hok2, hpa2, ht2⟩ := cmtOf_ok l
      have hback : ∀ e2, cmtOf l = some e2 → coutM e2 = l ∧ coutC e2 = 0 := fun e2 h2 => by
        obtain ⟨h3, h4⟩ := cmtOf_put h2
        exact ⟨by rw [coutM, if_pos h4, ← h3], by rw [coutC, if_pos h4]⟩
      obtain ⟨O2, hO2⟩ : ∃ O2, cmtOf l = O2 := ⟨_, rfl⟩
      rw [hO2] at hok2 hpa2 ht2
      have HO2 := Lib.hid hO2
      obtain ⟨E2, hE2⟩ : ∃ E2, O2.getD cmtZ = E2 := ⟨_, rfl⟩
      rw [hE2] at hok2 hpa2 ht2
      have HE2 := Lib.hid hE2
      obtain ⟨C2, hC2⟩ : ∃ C2, codeC O2 120 = C2 := ⟨_, rfl⟩
      have HC2 := Lib.hid hC2
      have ho2l := coutM_len hok2
      obtain ⟨out2, ho2⟩ : ∃ out2, coutM E2 = out2 := ⟨_, rfl⟩
      rw [ho2] at ho2l
      have Ho2 := Lib.hid ho2
      obtain ⟨cc2, hc2⟩ : ∃ cc2, coutC E2 = cc2 := ⟨_, rfl⟩
      have Hc2 := Lib.hid hc2
      have hz : (C2 = 0 ∧ cc2 = 0 ∧ str out2 = str l) ∨ C2 = 120 := by
        cases O2 with
        | none => exact .inr hC2.symm
        | some e2 =>
          obtain ⟨h3, h4⟩ := hback e2 hO2
          have h5 : e2 = E2 := hE2
          subst h5
          exact .inl ⟨hC2.symm, by rw [← hc2, h4], by rw [← ho2, h3]⟩
      clear hO2 hE2 hC2 ho2 hc2 hback
      obtain ⟨pa2, root2, key2, seq2, author2, text2⟩ := E2
      simp only at hpa2 ht2
      have Hok2 := Lib.hid hok2
      have rr2 : Row (u8s root2.1) 32 := Row.u32 root2
      have rk2 : Row (u8s key2.1) 32 := Row.u32 key2
      have ho1l := coutM_len ho
      obtain ⟨out1, ho1⟩ : ∃ out1, coutM ⟨pa, root, key, seq, author, text⟩ = out1 := ⟨_, rfl⟩
      rw [ho1] at ho1l
      have Ho1 := Lib.hid ho1
      obtain ⟨O1, hO1⟩ : ∃ O1, cmtOf out1 = O1 := ⟨_, rfl⟩
      have HO1 := Lib.hid hO1
      have hss := str_eq_selfC l
      have tr := True.intro
      by_cases hmay : mayC ⟨pa, root, key, seq, author, text⟩ = true
      · have hO1s : O1 = some ⟨pa, root, key, seq, author, text⟩ := by
          rw [← hO1, ← ho1, coutM, if_pos hmay]
          exact cmtOf_of hmay ho
        have HE1 := Lib.hid (show O1.getD cmtZ = ⟨pa, root, key, seq, author, text⟩ by rw [hO1s]; rfl)
        have HC1 := Lib.hid (show codeC O1 120 = 0 by rw [hO1s]; rfl)
        have Hc1 := Lib.hid (show coutC ⟨pa, root, key, seq, author, text⟩ = 0 by rw [coutC, if_pos hmay])
        clear ho1 hO1 hmay hO1s hok2 ho
        rcases hz with ⟨rfl, rfl, heq⟩ | rfl
        all_goals
          go_enter Try.func4, Try.ntmps4
          go_wp2_with (first
            | (go_at_call 13; refine (cmt_awake _).mono ?_; rintro r w ⟨rfl, hs⟩; replace h := h.quiet hs; clear hs) | (refine wl_runs rfl (ex_box h 31 _ rfl (c_api_Commit _ _ _ _ _ _) rfl) ?_; clear h; rintro _ w ⟨g0, rfl, h⟩) | (go_at_call 17; refine (few_cmt2 (x := ⟨pa, root, key, seq, author, text⟩)).mono ?_; rintro r w ⟨rfl, hs⟩; rw [Hf.out]; replace h := h.quiet hs; clear hs) | (have q := Ho1.out; clear Ho1; go_at_call 18; refine (cput_code (m := ⟨pa, root, key, seq, author, text⟩) (A := A) (c := c) h (by show pa.length ≤ _; omega) (by show text.length ≤ _; omega) Hok.out).mono ?_; rw [q, Hc1.out]; clear h q; rintro e w ⟨A1, c1, rfl, h⟩) | (have q := HO1.out; clear HO1; go_at_call 14; refine (cmt_of (A := A1) (n := out1.length) (c := c1) (l := out1) h (by omega)).mono ?_; rw [q, HE1.out, HC1.out]; clear h q; rintro e w ⟨A2, c2, rfl, h⟩) | (go_at_call 14; refine (cmt_of (A := D) (n := q) (c := f) (l := l) h (by omega)).mono ?_; rw [HO2.out, HE2.out, HC2.out]; clear h; rintro e w ⟨A3, c3, rfl, h⟩) | (clear tr; refine wl_runs rfl (ex_alloc h 31 rfl) ?_; clear h; rintro _ w ⟨g1, rfl, h⟩) | (refine wl_runs rfl (ex_alloc h 31 rfl) ?_; clear h; rintro _ w ⟨g2, rfl, h⟩) | (refine wl_runs rfl (ex_store h _ _ _ rfl _ _ rfl (c_api_Commit _ _ _ _ _ _) rfl) ?_; clear h; rintro _ w ⟨rfl, h⟩; try dsimp only [Act.put]) | (go_at_call 18; refine (cput_code (m := ⟨pa2, root2, key2, seq2, author2, text2⟩) (A := A3) (c := c3) h (by show pa2.length ≤ _; omega) (by show text2.length ≤ _; omega) Hok2.out).mono ?_; rw [Ho2.out, Hc2.out]; clear h; rintro e w ⟨A4, c4, rfl, h⟩) | (go_at_call 16; refine (same_cmt (m := ⟨pa, root, key, seq, author, text⟩) (n := 0) (h.sl A2 pa.length c2) (h.sl A pa.length c) (by show pa.length ≤ _; omega)).mono ?_; rintro e w ⟨rfl, hs⟩; replace h := h.quiet hs; clear hs) | (refine wl_reads rfl (ex_string _ _ _ rfl Try.underlying5 Try.underlying9 A4 out2.length c4 rfl (h.sl A4 out2.length c4)) ?_) | (refine wl_reads rfl (ex_string _ _ _ rfl Try.underlying5 Try.underlying9 D q f rfl (h.sl D q f)) ?_)
            | (refine wl_reads rfl (ex_loadv h _ _ rfl _ _ rfl) ?_) | (refine wl_runs rfl (ex_store1i h _ _ _ rfl _ _ rfl _ _ rfl) ?_; clear h; rintro _ w ⟨rfl, h⟩; try dsimp only [Act.put]) | (refine wl_runs rfl (ex_store1s h _ _ _ rfl _ _ rfl _ _ _ rfl) ?_; clear h; rintro _ w ⟨rfl, h⟩; try dsimp only [Act.put]) | (refine wl_runs rfl (ex_store1b h _ _ _ rfl _ _ rfl _ rfl) ?_; clear h; rintro _ w ⟨rfl, h⟩; try dsimp only [Act.put]) | (refine wl_runs rfl (ex_store1t h _ _ _ rfl _ _ rfl _ rfl) ?_; clear h; rintro _ w ⟨rfl, h⟩; try dsimp only [Act.put]) | (refine wl_runs rfl (ex_store1p h _ _ _ rfl _ _ rfl _ rfl) ?_; clear h; rintro _ w ⟨rfl, h⟩; try dsimp only [Act.put]) | (refine wl_runs rfl (ex_store1m h _ _ _ rfl _ _ rfl _ rfl) ?_; clear h; rintro _ w ⟨rfl, h⟩; try dsimp only [Act.put]) | (refine wl_runs rfl (ex_store h _ _ _ rfl _ _ rfl _ rfl) ?_; clear h; rintro _ w ⟨rfl, h⟩; try dsimp only [Act.put]) | (refine wl_runs rfl (ex_alloc h _ rfl) ?_; clear h; rintro _ w ⟨g, rfl, h⟩) | (refine wl_runs rfl (ex_box h _ _ rfl _ rfl) ?_; clear h; rintro _ w ⟨g, rfl, h⟩) | (refine wl_runs rfl (ex_box1i h _ _ rfl _ _ rfl) ?_; clear h; rintro _ w ⟨g, rfl, h⟩) | (refine wl_runs rfl (ex_box1s h _ _ rfl _ _ _ rfl) ?_; clear h; rintro _ w ⟨g, rfl, h⟩) | (refine wl_runs rfl (ex_box1b h _ _ rfl _ rfl) ?_; clear h; rintro _ w ⟨g, rfl, h⟩) | (refine wl_runs rfl (ex_box1t h _ _ rfl _ rfl) ?_; clear h; rintro _ w ⟨g, rfl, h⟩) | (refine wl_runs rfl (ex_box1p h _ _ rfl _ rfl) ?_; clear h; rintro _ w ⟨g, rfl, h⟩) | (refine wl_runs rfl (ex_box1m h _ _ rfl _ rfl) ?_; clear h; rintro _ w ⟨g, rfl, h⟩) | (refine wl_runs rfl (ex_slice1 h _ _ rfl _ rfl) ?_; clear h; rintro _ w ⟨g, rfl, h⟩) | (refine wl_runs rfl (ex_slice1i h _ _ rfl _ _ rfl) ?_; clear h; rintro _ w ⟨g, rfl, h⟩) | (refine wl_runs rfl (ex_slice1s h _ _ rfl _ _ _ rfl) ?_; clear h; rintro _ w ⟨g, rfl, h⟩) | (refine wl_runs rfl (ex_slice1b h _ _ rfl _ rfl) ?_; clear h; rintro _ w ⟨g, rfl, h⟩) | (refine wl_runs rfl (ex_slice1t h _ _ rfl _ rfl) ?_; clear h; rintro _ w ⟨g, rfl, h⟩) | (refine wl_runs rfl (ex_slice1p h _ _ rfl _ rfl) ?_; clear h; rintro _ w ⟨g, rfl, h⟩) | (refine wl_runs rfl (ex_slice1m h _ _ rfl _ rfl) ?_; clear h; rintro _ w ⟨g, rfl, h⟩) | (refine wl_reads rfl (ex_lit0 _ rfl) ?_))
          go_ret
          exact ⟨rfl, h.step.below⟩
      · have Hc1 := Lib.hid (show coutC ⟨pa, root, key, seq, author, text⟩ = 120 by rw [coutC, if_neg hmay])
        obtain ⟨E1, hE1⟩ : ∃ E1, O1.getD cmtZ = E1 := ⟨_, rfl⟩
        have HE1 := Lib.hid hE1
        obtain ⟨C1, hC1⟩ : ∃ C1, codeC O1 120 = C1 := ⟨_, rfl⟩
        have HC1 := Lib.hid hC1
        obtain ⟨pa1, root1, key1, seq1, author1, text1⟩ := E1
        have rr1 : Row (u8s root1.1) 32 := Row.u32 root1
        have rk1 : Row (u8s key1.1) 32 := Row.u32 key1
        clear ho1 hO1 hmay hE1 hC1 hok2 ho
        rcases hz with ⟨rfl, rfl, heq⟩ | rfl
        all_goals
          go_enter Try.func4, Try.ntmps4
          go_wp2_with (first
            | (go_at_call 13; refine (cmt_awake _).mono ?_; rintro r w ⟨rfl, hs⟩; replace h := h.quiet hs; clear hs) | (refine wl_runs rfl (ex_box h 31 _ rfl (c_api_Commit _ _ _ _ _ _) rfl) ?_; clear h; rintro _ w ⟨g0, rfl, h⟩) | (go_at_call 17; refine (few_cmt2 (x := ⟨pa, root, key, seq, author, text⟩)).mono ?_; rintro r w ⟨rfl, hs⟩; rw [Hf.out]; replace h := h.quiet hs; clear hs) | (have q := Ho1.out; clear Ho1; go_at_call 18; refine (cput_code (m := ⟨pa, root, key, seq, author, text⟩) (A := A) (c := c) h (by show pa.length ≤ _; omega) (by show text.length ≤ _; omega) Hok.out).mono ?_; rw [q, Hc1.out]; clear h q; rintro e w ⟨A1, c1, rfl, h⟩) | (have q := HO1.out; clear HO1; go_at_call 14; refine (cmt_of (A := A1) (n := out1.length) (c := c1) (l := out1) h (by omega)).mono ?_; rw [q, HE1.out, HC1.out]; clear h q; rintro e w ⟨A2, c2, rfl, h⟩) | (go_at_call 14; refine (cmt_of (A := D) (n := q) (c := f) (l := l) h (by omega)).mono ?_; rw [HO2.out, HE2.out, HC2.out]; clear h; rintro e w ⟨A3, c3, rfl, h⟩) | (clear tr; refine wl_runs rfl (ex_alloc h 31 rfl) ?_; clear h; rintro _ w ⟨g1, rfl, h⟩) | (refine wl_runs rfl (ex_alloc h 31 rfl) ?_; clear h; rintro _ w ⟨g2, rfl, h⟩) | (refine wl_runs rfl (ex_store h _ _ _ rfl _ _ rfl (c_api_Commit _ _ _ _ _ _) rfl) ?_; clear h; rintro _ w ⟨rfl, h⟩; try dsimp only [Act.put]) | (go_at_call 18; refine (cput_code (m := ⟨pa2, root2, key2, seq2, author2, text2⟩) (A := A3) (c := c3) h (by show pa2.length ≤ _; omega) (by show text2.length ≤ _; omega) Hok2.out).mono ?_; rw [Ho2.out, Hc2.out]; clear h; rintro e w ⟨A4, c4, rfl, h⟩) | (go_at_call 16; refine (same_cmt (m := ⟨pa, root, key, seq, author, text⟩) (n := 0) (h.sl A2 pa.length c2) (h.sl A pa.length c) (by show pa.length ≤ _; omega)).mono ?_; rintro e w ⟨rfl, hs⟩; replace h := h.quiet hs; clear hs) | (refine wl_reads rfl (ex_string _ _ _ rfl Try.underlying5 Try.underlying9 A4 out2.length c4 rfl (h.sl A4 out2.length c4)) ?_) | (refine wl_reads rfl (ex_string _ _ _ rfl Try.underlying5 Try.underlying9 D q f rfl (h.sl D q f)) ?_)
            | (refine wl_reads rfl (ex_loadv h _ _ rfl _ _ rfl) ?_) | (refine wl_runs rfl (ex_store1i h _ _ _ rfl _ _ rfl _ _ rfl) ?_; clear h; rintro _ w ⟨rfl, h⟩; try dsimp only [Act.put]) | (refine wl_runs rfl (ex_store1s h _ _ _ rfl _ _ rfl _ _ _ rfl) ?_; clear h; rintro _ w ⟨rfl, h⟩; try dsimp only [Act.put]) | (refine wl_runs rfl (ex_store1b h _ _ _ rfl _ _ rfl _ rfl) ?_; clear h; rintro _ w ⟨rfl, h⟩; try dsimp only [Act.put]) | (refine wl_runs rfl (ex_store1t h _ _ _ rfl _ _ rfl _ rfl) ?_; clear h; rintro _ w ⟨rfl, h⟩; try dsimp only [Act.put]) | (refine wl_runs rfl (ex_store1p h _ _ _ rfl _ _ rfl _ rfl) ?_; clear h; rintro _ w ⟨rfl, h⟩; try dsimp only [Act.put]) | (refine wl_runs rfl (ex_store1m h _ _ _ rfl _ _ rfl _ rfl) ?_; clear h; rintro _ w ⟨rfl, h⟩; try dsimp only [Act.put]) | (refine wl_runs rfl (ex_store h _ _ _ rfl _ _ rfl _ rfl) ?_; clear h; rintro _ w ⟨rfl, h⟩; try dsimp only [Act.put]) | (refine wl_runs rfl (ex_alloc h _ rfl) ?_; clear h; rintro _ w ⟨g, rfl, h⟩) | (refine wl_runs rfl (ex_box h _ _ rfl _ rfl) ?_; clear h; rintro _ w ⟨g, rfl, h⟩) | (refine wl_runs rfl (ex_box1i h _ _ rfl _ _ rfl) ?_; clear h; rintro _ w ⟨g, rfl, h⟩) | (refine wl_runs rfl (ex_box1s h _ _ rfl _ _ _ rfl) ?_; clear h; rintro _ w ⟨g, rfl, h⟩) | (refine wl_runs rfl (ex_box1b h _ _ rfl _ rfl) ?_; clear h; rintro _ w ⟨g, rfl, h⟩) | (refine wl_runs rfl (ex_box1t h _ _ rfl _ rfl) ?_; clear h; rintro _ w ⟨g, rfl, h⟩) | (refine wl_runs rfl (ex_box1p h _ _ rfl _ rfl) ?_; clear h; rintro _ w ⟨g, rfl, h⟩) | (refine wl_runs rfl (ex_box1m h _ _ rfl _ rfl) ?_; clear h; rintro _ w ⟨g, rfl, h⟩) | (refine wl_runs rfl (ex_slice1 h _ _ rfl _ rfl) ?_; clear h; rintro _ w ⟨g, rfl, h⟩) | (refine wl_runs rfl (ex_slice1i h _ _ rfl _ _ rfl) ?_; clear h; rintro _ w ⟨g, rfl, h⟩) | (refine wl_runs rfl (ex_slice1s h _ _ rfl _ _ _ rfl) ?_; clear h; rintro _ w ⟨g, rfl, h⟩) | (refine wl_runs rfl (ex_slice1b h _ _ rfl _ rfl) ?_; clear h; rintro _ w ⟨g, rfl, h⟩) | (refine wl_runs rfl (ex_slice1t h _ _ rfl _ rfl) ?_; clear h; rintro _ w ⟨g, rfl, h⟩) | (refine wl_runs rfl (ex_slice1p h _ _ rfl _ rfl) ?_; clear h; rintro _ w ⟨g, rfl, h⟩) | (refine wl_runs rfl (ex_slice1m h _ _ rfl _ rfl) ?_; clear h; rintro _ w ⟨g, rfl, h⟩) | (refine wl_reads rfl (ex_lit0 _ rfl) ?_))
          go_ret
          exact ⟨rfl, h.step.below⟩
    · have hq2 : (5000 : Int) < (q : Int) := by omega
      clear hn hm
      go_enter Try.func4, Try.ntmps4
      go_wp2_with (first
        | (go_at_call 13; refine (cmt_awake _).mono ?_; rintro r w ⟨rfl, hs⟩; replace h := h.quiet hs; clear hs) | (refine wl_runs rfl (ex_box h 31 _ rfl (c_api_Commit _ _ _ _ _ _) rfl) ?_; clear h; rintro _ w ⟨g0, rfl, h⟩) | (go_at_call 17; refine (few_cmt2 (x := ⟨pa, root, key, seq, author, text⟩)).mono ?_; rintro r w ⟨rfl, hs⟩; rw [Hf.out]; replace h := h.quiet hs; clear hs) | (have q := Ho1.out; clear Ho1; go_at_call 18; refine (cput_code (m := ⟨pa, root, key, seq, author, text⟩) (A := A) (c := c) h (by show pa.length ≤ _; omega) (by show text.length ≤ _; omega) Hok.out).mono ?_; rw [q, Hc1.out]; clear h q; rintro e w ⟨A1, c1, rfl, h⟩) | (have q := HO1.out; clear HO1; go_at_call 14; refine (cmt_of (A := A1) (n := out1.length) (c := c1) (l := out1) h (by omega)).mono ?_; rw [q, HE1.out, HC1.out]; clear h q; rintro e w ⟨A2, c2, rfl, h⟩) | (go_at_call 14; refine (cmt_of (A := D) (n := q) (c := f) (l := l) h (by omega)).mono ?_; rw [HO2.out, HE2.out, HC2.out]; clear h; rintro e w ⟨A3, c3, rfl, h⟩) | (clear tr; refine wl_runs rfl (ex_alloc h 31 rfl) ?_; clear h; rintro _ w ⟨g1, rfl, h⟩) | (refine wl_runs rfl (ex_alloc h 31 rfl) ?_; clear h; rintro _ w ⟨g2, rfl, h⟩) | (refine wl_runs rfl (ex_store h _ _ _ rfl _ _ rfl (c_api_Commit _ _ _ _ _ _) rfl) ?_; clear h; rintro _ w ⟨rfl, h⟩; try dsimp only [Act.put]) | (go_at_call 18; refine (cput_code (m := ⟨pa2, root2, key2, seq2, author2, text2⟩) (A := A3) (c := c3) h (by show pa2.length ≤ _; omega) (by show text2.length ≤ _; omega) Hok2.out).mono ?_; rw [Ho2.out, Hc2.out]; clear h; rintro e w ⟨A4, c4, rfl, h⟩) | (go_at_call 16; refine (same_cmt (m := ⟨pa, root, key, seq, author, text⟩) (n := 0) (h.sl A2 pa.length c2) (h.sl A pa.length c) (by show pa.length ≤ _; omega)).mono ?_; rintro e w ⟨rfl, hs⟩; replace h := h.quiet hs; clear hs) | (refine wl_reads rfl (ex_string _ _ _ rfl Try.underlying5 Try.underlying9 A4 out2.length c4 rfl (h.sl A4 out2.length c4)) ?_) | (refine wl_reads rfl (ex_string _ _ _ rfl Try.underlying5 Try.underlying9 D q f rfl (h.sl D q f)) ?_)
        | (refine wl_reads rfl (ex_loadv h _ _ rfl _ _ rfl) ?_) | (refine wl_runs rfl (ex_store1i h _ _ _ rfl _ _ rfl _ _ rfl) ?_; clear h; rintro _ w ⟨rfl, h⟩; try dsimp only [Act.put]) | (refine wl_runs rfl (ex_store1s h _ _ _ rfl _ _ rfl _ _ _ rfl) ?_; clear h; rintro _ w ⟨rfl, h⟩; try dsimp only [Act.put]) | (refine wl_runs rfl (ex_store1b h _ _ _ rfl _ _ rfl _ rfl) ?_; clear h; rintro _ w ⟨rfl, h⟩; try dsimp only [Act.put]) | (refine wl_runs rfl (ex_store1t h _ _ _ rfl _ _ rfl _ rfl) ?_; clear h; rintro _ w ⟨rfl, h⟩; try dsimp only [Act.put]) | (refine wl_runs rfl (ex_store1p h _ _ _ rfl _ _ rfl _ rfl) ?_; clear h; rintro _ w ⟨rfl, h⟩; try dsimp only [Act.put]) | (refine wl_runs rfl (ex_store1m h _ _ _ rfl _ _ rfl _ rfl) ?_; clear h; rintro _ w ⟨rfl, h⟩; try dsimp only [Act.put]) | (refine wl_runs rfl (ex_store h _ _ _ rfl _ _ rfl _ rfl) ?_; clear h; rintro _ w ⟨rfl, h⟩; try dsimp only [Act.put]) | (refine wl_runs rfl (ex_alloc h _ rfl) ?_; clear h; rintro _ w ⟨g, rfl, h⟩) | (refine wl_runs rfl (ex_box h _ _ rfl _ rfl) ?_; clear h; rintro _ w ⟨g, rfl, h⟩) | (refine wl_runs rfl (ex_box1i h _ _ rfl _ _ rfl) ?_; clear h; rintro _ w ⟨g, rfl, h⟩) | (refine wl_runs rfl (ex_box1s h _ _ rfl _ _ _ rfl) ?_; clear h; rintro _ w ⟨g, rfl, h⟩) | (refine wl_runs rfl (ex_box1b h _ _ rfl _ rfl) ?_; clear h; rintro _ w ⟨g, rfl, h⟩) | (refine wl_runs rfl (ex_box1t h _ _ rfl _ rfl) ?_; clear h; rintro _ w ⟨g, rfl, h⟩) | (refine wl_runs rfl (ex_box1p h _ _ rfl _ rfl) ?_; clear h; rintro _ w ⟨g, rfl, h⟩) | (refine wl_runs rfl (ex_box1m h _ _ rfl _ rfl) ?_; clear h; rintro _ w ⟨g, rfl, h⟩) | (refine wl_runs rfl (ex_slice1 h _ _ rfl _ rfl) ?_; clear h; rintro _ w ⟨g, rfl, h⟩) | (refine wl_runs rfl (ex_slice1i h _ _ rfl _ _ rfl) ?_; clear h; rintro _ w ⟨g, rfl, h⟩) | (refine wl_runs rfl (ex_slice1s h _ _ rfl _ _ _ rfl) ?_; clear h; rintro _ w ⟨g, rfl, h⟩) | (refine wl_runs rfl (ex_slice1b h _ _ rfl _ rfl) ?_; clear h; rintro _ w ⟨g, rfl, h⟩) | (refine wl_runs rfl (ex_slice1t h _ _ rfl _ rfl) ?_; clear h; rintro _ w ⟨g, rfl, h⟩) | (refine wl_runs rfl (ex_slice1p h _ _ rfl _ rfl) ?_; clear h; rintro _ w ⟨g, rfl, h⟩) | (refine wl_runs rfl (ex_slice1m h _ _ rfl _ rfl) ?_; clear h; rintro _ w ⟨g, rfl, h⟩) | (refine wl_reads rfl (ex_lit0 _ rfl) ?_))
      go_ret
      exact ⟨rfl, h.step.below⟩
theorem walk_CmtBack {w : World} {p : CmtAt} (hp : CmtIs w p) {l : List UInt8} {D : Option Addr} {q f : Nat} (hl : Sl w D q f 1 (u8s l)) :
    Calls Try.prog 4 #[.agg (atc p).toArray, .slice D q f] w fun r w' => r = .returned (.bool true) ∧ Below w.heap.size w w' := by
  have hn : p.n = p.m.pa.length := hp.1.n_flat idc_length (by omega)
  have h1 := hp.1
  rw [hn] at h1
  have := walk_CmtBack0 h1 hp.2.1 hl
  unfold atc
  rwa [cmtc_eq, hn]
end Go.Proofs.Ytjnaiicgincndaa
