/- The law CmtPuts: any commit as bytes, or refused; what it links to. -/
import Derived.Test.YtjnaiicgincndaaCCmtLinks
import Derived.Test.YtjnaiicgincndaaCCmtPut
import Derived.Test.YtjnaiicgincndaaCCmtPutRef
import Derived.Test.YtjnaiicgincndaaCCmtAwake
import Derived.Test.YtjnaiicgincndaaCIdsSame
import Derived.Test.YtjnaiicgincndaaCOpenCmt
namespace Go.Proofs.Ytjnaiicgincndaa
open Go.RowKit
set_option linter.unusedVariables false
set_option linter.unusedSimpArgs false

theorem few_cmt3 {w : World} {x : Cmt} {A : Option Addr} {n c : Nat} :
    Calls Try.prog 17 #[.agg (cmtK A n c x).toArray] w fun e w' => e = .returned (.bool (decide (n ≤ 10) && decide (x.text.length ≤ 5000))) ∧ Step (fun _ => False) w w' := by
  have := few_cmt (w := w) (x := x) (A := A) (n := n) (c := c)
  rwa [cmtc_eq] at this
theorem coutM_len3 {m : Cmt} (ho : CmtOk m) : (coutM m).length ≤ 10000 := by
  unfold coutM
  split
  · rename_i h; exact cmtB_len h ho
  · simp
set_option maxRecDepth 100000 in
set_option maxHeartbeats 2000000 in
theorem walk_CmtPuts0 {w : World} {m : Cmt} {A : Option Addr} {c : Nat} (ha : Sl w A m.pa.length c 32 (m.pa.flatMap idc)) (ho : CmtOk m) :
    Calls Try.prog 5 #[.agg (cmtK A m.pa.length c m).toArray] w fun r w' => r = .returned (.bool true) ∧ Below w.heap.size w w' := by
  have h := St.read0 ha (by omega)
  clear ha
  have hol := coutM_len3 ho
  have Hok := Lib.hid ho
  obtain ⟨pa, root, key, seq, author, text⟩ := m
  simp only at h ⊢
  have rr : Row (u8s root.1) 32 := Row.u32 root
  have rk : Row (u8s key.1) 32 := Row.u32 key
  obtain ⟨fw, hfw⟩ : ∃ fw, (decide (pa.length ≤ 10) && decide (text.length ≤ 5000)) = fw := ⟨_, rfl⟩
  have Hf := Lib.hid hfw
  clear ho
  cases fw with
  | false =>
    clear hfw
    go_enter Try.func5, Try.ntmps5
    go_wp2_with (first | (go_at_call 13; refine (cmt_awake _).mono ?_; rintro r w ⟨rfl, hs⟩; replace h := h.quiet hs; clear hs) | (refine wl_runs rfl (ex_box h 31 _ rfl (cmtK A pa.length c ⟨pa, root, key, seq, author, text⟩) rfl) ?_; clear h; rintro _ w ⟨g0, rfl, h⟩) | (go_at_call 17; refine (few_cmt3 (x := ⟨pa, root, key, seq, author, text⟩)).mono ?_; rintro r w ⟨rfl, hs⟩; rw [Hf.out]; replace h := h.quiet hs; clear hs) | (refine wl_reads rfl (ex_loadv h _ _ rfl _ _ rfl) ?_))
    go_ret
    exact ⟨rfl, h.step.below⟩
  | true =>
    have hb : pa.length ≤ 10 ∧ text.length ≤ 5000 := by simpa using hfw
    obtain ⟨hn, hm⟩ := hb
    clear hfw
    obtain ⟨out, ho⟩ : ∃ out, coutM ⟨pa, root, key, seq, author, text⟩ = out := ⟨_, rfl⟩
    rw [ho] at hol
    have Ho := Lib.hid ho
    obtain ⟨cc, hc⟩ : ∃ cc, coutC ⟨pa, root, key, seq, author, text⟩ = cc := ⟨_, rfl⟩
    have Hc := Lib.hid hc
    obtain ⟨M, hM⟩ : ∃ M, linksM (root :: pa) = M := ⟨_, rfl⟩
    have hlm := linksM_length (root :: pa)
    simp only [List.length_cons] at hlm
    rw [hM] at hlm
    have HM := Lib.hid hM
    clear ho hc hM
    have hss : ((str out).toList == (str out).toList) = true := by simp
    have hcc : (cc == cc) = true := by simp
    go_enter Try.func5, Try.ntmps5
    go_upto_region 7 with (first
      | (go_at_call 13; refine (cmt_awake _).mono ?_; rintro r w ⟨rfl, hs⟩; replace h := h.quiet hs; clear hs)
      | (refine wl_runs rfl (ex_box h 31 _ rfl (cmtK A pa.length c ⟨pa, root, key, seq, author, text⟩) rfl) ?_; clear h; rintro _ w ⟨g0, rfl, h⟩)
      | (go_at_call 17; refine (few_cmt3 (x := ⟨pa, root, key, seq, author, text⟩)).mono ?_; rintro r w ⟨rfl, hs⟩; rw [Hf.out]; replace h := h.quiet hs; clear hs)
      | (go_at_call 18; refine (cput_code (m := ⟨pa, root, key, seq, author, text⟩) (A := A) (c := c) h (by show pa.length ≤ _; omega) (by show text.length ≤ _; omega) Hok.out).mono ?_; rw [Ho.out, Hc.out]; clear h; rintro e w ⟨A1, c1, rfl, h⟩)
      | (go_at_call 19; refine (cput_ref (m := ⟨pa, root, key, seq, author, text⟩) (A := A) (c := c) h (by show pa.length ≤ _; omega) (by show text.length ≤ _; omega) Hok.out).mono ?_; rw [Ho.out, Hc.out]; clear h; rintro e w ⟨A2, c2, rfl, h⟩)
      | (refine wl_reads rfl (ex_loadv h _ _ rfl _ _ rfl) ?_))
    refine wp_region_K 18 (fun w' => St _ _ w' _) (by kernel_rfl) h.drew ?_; replace h := h.drew
    refine wpAnyK_pure 22 (v := ?_) (i := 0) (fuel := 17) rfl rfl (by kernel_rfl) (by kernel_rfl) (by kernel_rfl) (by decide) (fun _ _ _ h => h) (Or.inl ⟨by rfl, fun w _ => ?_⟩) ?_; rotate_left; (go_simp; with_reducible rfl); simp only [Act.put, List.setIfInBounds_toArray, List.set_cons_zero, List.set_cons_succ]
    refine wpAnyK_load 23 (i := 1) (fuel := 16) rfl rfl (by kernel_rfl) (by kernel_rfl) (by kernel_rfl) (.inr (by decide)) (by decide) (fun _ _ _ h => h) rfl (fun w h => ex_string _ _ _ rfl Try.underlying5 Try.underlying9 A1 out.length c1 rfl (h.sl A1 out.length c1)) ?_; simp only [Act.put, List.setIfInBounds_toArray, List.set_cons_zero, List.set_cons_succ]
    refine wpAnyK_pure 24 (v := ?_) (i := 2) (fuel := 15) rfl rfl (by kernel_rfl) (by kernel_rfl) (by kernel_rfl) (by decide) (fun _ _ _ h => h) (Or.inl ⟨by rfl, fun w _ => ?_⟩) ?_; rotate_left; (go_simp; with_reducible rfl); simp only [Act.put, List.setIfInBounds_toArray, List.set_cons_zero, List.set_cons_succ]
    refine wpAnyK_load 25 (i := 3) (fuel := 14) rfl rfl (by kernel_rfl) (by kernel_rfl) (by kernel_rfl) (.inr (by decide)) (by decide) (fun _ _ _ h => h) rfl (fun w h => ex_string _ _ _ rfl Try.underlying5 Try.underlying9 A2 out.length c2 rfl (h.sl A2 out.length c2)) ?_; simp only [Act.put, List.setIfInBounds_toArray, List.set_cons_zero, List.set_cons_succ]
    refine wpAnyK_pure 26 (v := ?_) (i := 4) (fuel := 13) rfl rfl (by kernel_rfl) (by kernel_rfl) (by kernel_rfl) (by decide) (fun _ _ _ h => h) (Or.inl ⟨by rfl, fun w _ => ?_⟩) ?_; rotate_left; (go_simp; with_reducible rfl); simp only [Act.put, List.setIfInBounds_toArray, List.set_cons_zero, List.set_cons_succ]
    refine wpAnyK_pure 27 (v := ?_) (i := 5) (fuel := 12) rfl rfl (by kernel_rfl) (by kernel_rfl) (by kernel_rfl) (by decide) (fun _ _ _ h => h) (Or.inl ⟨by rfl, fun w _ => ?_⟩) ?_; rotate_left; (go_simp; with_reducible rfl); simp only [Act.put, List.setIfInBounds_toArray, List.set_cons_zero, List.set_cons_succ]
    refine wpAnyK_pure 28 (v := ?_) (i := 6) (fuel := 11) rfl rfl (by kernel_rfl) (by kernel_rfl) (by kernel_rfl) (by decide) (fun _ _ _ h => h) (Or.inl ⟨by rfl, fun w _ => ?_⟩) ?_; rotate_left; (go_simp; with_reducible rfl); simp only [Act.put, List.setIfInBounds_toArray, List.set_cons_zero, List.set_cons_succ]
    refine wpAnyK_pure 29 (v := ?_) (i := 7) (fuel := 10) rfl rfl (by kernel_rfl) (by kernel_rfl) (by kernel_rfl) (by decide) (fun _ _ _ h => h) (Or.inl ⟨by rfl, fun w _ => ?_⟩) ?_; rotate_left; (go_simp; with_reducible rfl); simp only [Act.put, List.setIfInBounds_toArray, List.set_cons_zero, List.set_cons_succ]
    refine wpAnyK_pure 30 (v := ?_) (i := 8) (fuel := 9) rfl rfl (by kernel_rfl) (by kernel_rfl) (by kernel_rfl) (by decide) (fun _ _ _ h => h) (Or.inl ⟨by rfl, fun w _ => ?_⟩) ?_; rotate_left; (go_simp; with_reducible rfl); simp only [Act.put, List.setIfInBounds_toArray, List.set_cons_zero, List.set_cons_succ]
    refine wpAnyK_pure 31 (v := ?_) (i := 9) (fuel := 8) rfl rfl (by kernel_rfl) (by kernel_rfl) (by kernel_rfl) (by decide) (fun _ _ _ h => h) (Or.inl ⟨by rfl, fun w _ => ?_⟩) ?_; rotate_left; (go_simp; with_reducible rfl); simp only [Act.put, List.setIfInBounds_toArray, List.set_cons_zero, List.set_cons_succ]
    refine wpAnyK_pure 32 (v := ?_) (i := 10) (fuel := 7) rfl rfl (by kernel_rfl) (by kernel_rfl) (by kernel_rfl) (by decide) (fun _ _ _ h => h) (Or.inl ⟨by rfl, fun w _ => ?_⟩) ?_; rotate_left; (go_simp; with_reducible rfl); simp only [Act.put, List.setIfInBounds_toArray, List.set_cons_zero, List.set_cons_succ]
    refine wpAnyK_load 33 (i := 11) (fuel := 6) rfl rfl (by kernel_rfl) (by kernel_rfl) (by kernel_rfl) (.inr (by decide)) (by decide) (fun _ _ _ h => h) rfl (fun w h => ex_loadv h _ _ rfl _ _ rfl) ?_; simp only [Act.put, List.setIfInBounds_toArray, List.set_cons_zero, List.set_cons_succ]
    refine wpAnyK_load 35 (i := 13) (fuel := 5) rfl rfl (by kernel_rfl) (by kernel_rfl) (by kernel_rfl) (.inr (by decide)) (by decide) (fun _ _ _ h => h) rfl (fun w h => ex_loadv h _ _ rfl _ _ rfl) ?_; simp only [Act.put, List.setIfInBounds_toArray, List.set_cons_zero, List.set_cons_succ]
    refine wpAnyK_one (i := 12) (fuel := 4) rfl (by kernel_rfl) rfl (fun K hK => ?_)
    (go_simp; go_wp2_with (go_at_call 21; refine (clinks_code (m := ⟨pa, root, key, seq, author, text⟩) (A := A) (c := c) h (by show pa.length ≤ _; omega)).mono ?_; rw [HM.out]; clear h; rintro e w ⟨A3, c3, rfl, h⟩)); refine hK.out _ _ (fun _ => h.to) ?_; clear hK K
    try simp only [Act.put, List.setIfInBounds_toArray, List.set_cons_zero, List.set_cons_succ]
    refine wpAnyK_one (i := 14) (fuel := 3) rfl (by kernel_rfl) rfl (fun K hK => ?_)
    (go_simp; go_wp2_with (go_at_call 22; refine (clinks_ref (m := ⟨pa, root, key, seq, author, text⟩) (A := A) (c := c) h (by show pa.length ≤ _; omega)).mono ?_; rw [HM.out]; clear h; rintro e w ⟨A4, c4, rfl, h⟩)); refine hK.out _ _ (fun _ => h.to) ?_; clear hK K
    try simp only [Act.put, List.setIfInBounds_toArray, List.set_cons_zero, List.set_cons_succ]
    refine wpAnyK_one (i := 15) (fuel := 2) rfl (by kernel_rfl) rfl (fun K hK => ?_)
    (go_simp; go_wp2_with (go_at_call 20; refine (same_ids (h.sl A3 M.length c3) (h.sl A4 M.length c4) (by omega)).mono ?_; rw [decide_eq_true (rfl : M = M)]; rintro r w ⟨rfl, q, rfl⟩; replace h := h.quiet ((Step.refl (fun _ => False) _).drewN q))); refine hK.out _ _ (fun _ => h.to) ?_; clear hK K
    try simp only [Act.put, List.setIfInBounds_toArray, List.set_cons_zero, List.set_cons_succ]
    refine wpAnyK_pure 38 (v := ?_) (i := 16) (fuel := 1) rfl rfl (by kernel_rfl) (by kernel_rfl) (by kernel_rfl) (by decide) (fun _ _ _ h => h) (Or.inl ⟨by rfl, fun w _ => ?_⟩) ?_; rotate_left; (go_simp; with_reducible rfl); simp only [Act.put, List.setIfInBounds_toArray, List.set_cons_zero, List.set_cons_succ]
    refine wpAnyK_pure 2 (v := ?_) (i := 17) (fuel := 0) rfl rfl (by kernel_rfl) (by kernel_rfl) (by kernel_rfl) (by decide) (fun _ _ _ h => h) (Or.inl ⟨by rfl, fun w _ => ?_⟩) ?_; rotate_left; (go_simp; with_reducible rfl); simp only [Act.put, List.setIfInBounds_toArray, List.set_cons_zero, List.set_cons_succ]
    refine wpAnyK_done (by kernel_rfl) ?_
    all_goals
      go_wp2
      go_ret
      exact ⟨rfl, h.step.below⟩
theorem walk_CmtPuts {w : World} {p : CmtAt} (hp : CmtIs w p) :
    Calls Try.prog 5 #[.agg (atc p).toArray] w fun r w' => r = .returned (.bool true) ∧ Below w.heap.size w w' := by
  have hn : p.n = p.m.pa.length := hp.1.n_flat idc_length (by omega)
  have h1 := hp.1
  rw [hn] at h1
  have := walk_CmtPuts0 h1 hp.2.1
  unfold atc
  rwa [cmtc_eq, hn]
end Go.Proofs.Ytjnaiicgincndaa
