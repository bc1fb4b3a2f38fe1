/- The law CmtTells: which commits are alike; the number behind all of them. -/
import Derived.Test.YtemhfociaikijaaCmtAwake
import Derived.Test.YtemhfociaikijaaOpenCmt
namespace Go.Proofs.Ytemhfociaikijaa
set_option linter.unusedSimpArgs false
open Go.RowKit Go.ChangeShapes Go.WideShapes Go.Deep

theorem any_take (d : Tmp) {P : Program} {md : Region.Mode} {ops : Array Oper} {Q : Exit → Act → World → Prop} {S : World → Prop} {i : Nat} {oi : Oper} {v : Value} {fuel : Nat} {listed : Array Bool} {a : Act} {w : World} (hi : ops[i]? = some oi) (hd : oi.dst = some d)
    (hs : Region.noSelect ops = true) (hf : Region.free md ops listed i = true) (hr : (Region.ready md ops listed).contains i = true)
    (hQ : ∀ c a w, Q (.panic c) (a.put oi.dst v) w → Q (.panic c) a w) (hy : YieldsIf P ops S oi v a) (hS : S w)
    (h : wpAnyH P md ops Q S fuel (listed.setIfInBounds i true) (a.put (some d) v) w) : wpAnyH P md ops Q S (fuel + 1) listed a w :=
  wpAnyH_take hi hs hf hr hQ hy hS (by rw [hd]; exact h)

set_option maxRecDepth 100000 in
set_option maxHeartbeats 1000000 in
theorem walk_CmtTells {w : World} {x y : Cmt} {A B L : Option Addr} {n c m d k e : Nat} {l : List CmtAt} (hx : Sl w A n c 32 (x.pa.flatMap idc)) (hy : Sl w B m d 32 (y.pa.flatMap idc)) (hl : Sl w L k e 68 (l.flatMap atc)) (ho : ∀ p ∈ l, CmtOk p.m) :
    Calls Try.prog 6 #[.agg (cmtc A n c x).toArray, .agg (cmtc B m d y).toArray, .slice L k e] w fun r w' => r = .returned (.bool true) ∧ Below w.heap.size w w' := by
  go_enter Try.func6, Try.ntmps6
  by_cases hf : (decide (n ≤ 10) && decide (x.text.length ≤ 5000)) = true
  · have hn10 : n ≤ 10 := by simp only [Bool.and_eq_true, decide_eq_true_eq] at hf; exact hf.1
    have hpa := hx.n_flat idc_length (by omega)
    have hb : x.pa.length ≤ 1000000000 := by omega
    have Hf := Lib.hid hf
    clear hf hpa hn10
    by_cases hg : (decide (m ≤ 10) && decide (y.text.length ≤ 5000)) = true
    · have Hg := Lib.hid hg
      clear hg
      by_cases hk : k ≤ 40
      · have hnk : k ≤ 1000000000 := by omega
        go_wp2_with (first
          | (refine wl_box rfl 50 (.tmp 0) rfl (.agg (cmtc A n c x).toArray) rfl ?_; intro w1 hb1 hS1 hw; clear hw)
          | (refine wl_box rfl 50 (.tmp 1) rfl (.agg (cmtc B m d y).toArray) rfl ?_; intro w2 hb2 hS2 hw; clear hw; have hc1 : Cells w2 w.heap.size 0 (cmtc A n c x) := (hb1.step hS2 id).cells; have hc2 : Cells w2 w1.heap.size 0 (cmtc B m d y) := hb2.cells; clear hb1 hb2)
          | (go_at_call 19; refine (cmt_awake _).mono ?_; rintro r w3 ⟨rfl, hS3⟩; have hc13 := hc1.step hS3 id; have hc23 := hc2.step hS3 id; clear hc1 hc2)
          | (refine wl_load rfl 50 _ rfl w.heap.size 0 rfl (cmtc A n c x) _ Try.underlying50 rfl (by rw [cmt_size, cmtc_length]) hc13 ?_)
          | (go_at_call 20; have hh := Hf; clear hh; refine (few_cmt (x := x)).mono ?_; rintro r w4 ⟨rfl, hS4⟩; rw [Hf.out]; have hc14 := hc13.step hS4 id; have hc24 := hc23.step hS4 id; clear hc13 hc23 Hf)
          | (refine wl_load rfl 50 _ rfl w1.heap.size 0 rfl (cmtc B m d y) _ Try.underlying50 rfl (by rw [cmt_size, cmtc_length]) hc24 ?_)
          | (go_at_call 20; have hh := Hg; clear hh; refine (few_cmt (x := y)).mono ?_; rintro r w5 ⟨rfl, hS5⟩; rw [Hg.out]; have hc15 := hc14.step hS5 id; have hc25 := hc24.step hS5 id; clear hc14 hc24 Hg))
        have hx5 : ∀ w', Step (fun _ => False) w5 w' → Sl w' A n c 32 (x.pa.flatMap idc) := fun w' h => hx.keep (((((hS1.tr hS2).tr hS3).tr hS4).tr hS5).tr h)
        have hy5 : ∀ w', Step (fun _ => False) w5 w' → Sl w' B m d 32 (y.pa.flatMap idc) := fun w' h => hy.keep (((((hS1.tr hS2).tr hS3).tr hS4).tr hS5).tr h)
        have hl5 : ∀ w', Step (fun _ => False) w5 w' → Sl w' L k e 68 (l.flatMap atc) := fun w' h => hl.keep (((((hS1.tr hS2).tr hS3).tr hS4).tr hS5).tr h)
        obtain ⟨b, hbb⟩ : ∃ b, decide (x = y) = b := ⟨_, rfl⟩
        obtain ⟨N, hN⟩ : ∃ N, nextM (l.map (·.m.seq)) 0 = N := ⟨_, rfl⟩
        have Hb := Lib.hid hbb
        have HN := Lib.hid hN
        have hself : decide (x = x) = true := by simp
        have Hs := Lib.hid hself
        have hbeq : (b == b) = true := by simp
        have hneq : (N == N) = true := by simp
        clear hbb hN hself
        refine wp_region_held_drew (S := fun w' => Step (fun _ => False) w5 w') (by kernel_rfl) ((Step.refl _ _).drew) fun hS => ?_
        refine any_take 22 (i := 0) (fuel := 19)  rfl rfl (by kernel_rfl) (by kernel_rfl) (by kernel_rfl) (fun _ _ _ h => h) (yieldsIf_load_mid rfl 50 _ rfl w.heap.size 0 rfl (cmtc A n c x) _ (fun w' h => hc15.step h id) Try.underlying50 rfl (by rw [cmt_size, cmtc_length])) hS ?_
        simp only [Act.put, List.setIfInBounds_toArray, List.set_cons_zero, List.set_cons_succ]
        refine any_take 23 (i := 1) (fuel := 18)  rfl rfl (by kernel_rfl) (by kernel_rfl) (by kernel_rfl) (fun _ _ _ h => h) (yieldsIf_load_mid rfl 50 _ rfl w1.heap.size 0 rfl (cmtc B m d y) _ (fun w' h => hc25.step h id) Try.underlying50 rfl (by rw [cmt_size, cmtc_length])) hS ?_
        simp only [Act.put, List.setIfInBounds_toArray, List.set_cons_zero, List.set_cons_succ]
        refine any_take 25 (i := 3) (fuel := 17)  rfl rfl (by kernel_rfl) (by kernel_rfl) (by kernel_rfl) (fun _ _ _ h => h) (yieldsIf_load_mid rfl 50 _ rfl w.heap.size 0 rfl (cmtc A n c x) _ (fun w' h => hc15.step h id) Try.underlying50 rfl (by rw [cmt_size, cmtc_length])) hS ?_
        simp only [Act.put, List.setIfInBounds_toArray, List.set_cons_zero, List.set_cons_succ]
        refine any_take 26 (i := 4) (fuel := 16)  rfl rfl (by kernel_rfl) (by kernel_rfl) (by kernel_rfl) (fun _ _ _ h => h) (yieldsIf_load_mid rfl 50 _ rfl w1.heap.size 0 rfl (cmtc B m d y) _ (fun w' h => hc25.step h id) Try.underlying50 rfl (by rw [cmt_size, cmtc_length])) hS ?_
        simp only [Act.put, List.setIfInBounds_toArray, List.set_cons_zero, List.set_cons_succ]
        refine wpAnyH_ready (rs := [2]) (fuel := 15) (by kernel_rfl) (by simp) ?_
        refine AllReadyH.cons rfl (fun K hK => ?_) AllReadyH.nil
        go_simp
        go_wp2_with (go_at_call 21; refine (cmt_same (hx5 _ hS) (hy5 _ hS) hb).mono ?_; rintro r w6 ⟨rfl, hS6⟩; rw [Hb.out])
        refine hK.out _ _ ?_ (fun t6 => ?_)
        · exact ((Step.refl _ _).drew).tr hS6
        clear hK K
        refine wpAnyH_ready (rs := [5]) (fuel := 14) (by kernel_rfl) (by simp) ?_
        refine AllReadyH.cons rfl (fun K hK => ?_) AllReadyH.nil
        go_simp
        go_wp2_with (go_at_call 22; refine (same_ref (hx5 _ t6) (hy5 _ t6) hb).mono ?_; rintro r w7 ⟨rfl, hS7⟩; rw [Hb.out])
        refine hK.out _ _ ?_ (fun t7 => ?_)
        · exact t6.tr hS7
        clear hK K
        refine any_take 28 (i := 6) (fuel := 13) (v := .bool true) rfl rfl (by kernel_rfl) (by kernel_rfl) (by kernel_rfl) (fun _ _ _ h => h) (Or.inl ⟨by rfl, fun w _ => by go_simp⟩) t7 ?_
        simp only [Act.put, List.setIfInBounds_toArray, List.set_cons_zero, List.set_cons_succ]
        refine any_take 29 (i := 7) (fuel := 12) (v := .bool true) rfl rfl (by kernel_rfl) (by kernel_rfl) (by kernel_rfl) (fun _ _ _ h => h) (Or.inl ⟨by rfl, fun w _ => by go_simp⟩) t7 ?_
        simp only [Act.put, List.setIfInBounds_toArray, List.set_cons_zero, List.set_cons_succ]
        refine any_take 30 (i := 8) (fuel := 11)  rfl rfl (by kernel_rfl) (by kernel_rfl) (by kernel_rfl) (fun _ _ _ h => h) (yieldsIf_load_mid rfl 50 _ rfl w.heap.size 0 rfl (cmtc A n c x) _ (fun w' h => hc15.step h id) Try.underlying50 rfl (by rw [cmt_size, cmtc_length])) t7 ?_
        simp only [Act.put, List.setIfInBounds_toArray, List.set_cons_zero, List.set_cons_succ]
        refine any_take 31 (i := 9) (fuel := 10)  rfl rfl (by kernel_rfl) (by kernel_rfl) (by kernel_rfl) (fun _ _ _ h => h) (yieldsIf_load_mid rfl 50 _ rfl w.heap.size 0 rfl (cmtc A n c x) _ (fun w' h => hc15.step h id) Try.underlying50 rfl (by rw [cmt_size, cmtc_length])) t7 ?_
        simp only [Act.put, List.setIfInBounds_toArray, List.set_cons_zero, List.set_cons_succ]
        refine wpAnyH_ready (rs := [10]) (fuel := 9) (by kernel_rfl) (by simp) ?_
        refine AllReadyH.cons rfl (fun K hK => ?_) AllReadyH.nil
        go_simp
        go_wp2_with (go_at_call 21; refine (cmt_same (hx5 _ t7) (hx5 _ t7) hb).mono ?_; rintro r w8 ⟨rfl, hS8⟩; rw [show decide (x = x) = true from decide_eq_true rfl])
        refine hK.out _ _ ?_ (fun t8 => ?_)
        · exact t7.tr hS8
        clear hK K
        refine any_take 33 (i := 11) (fuel := 8) (v := .bool true) rfl rfl (by kernel_rfl) (by kernel_rfl) (by kernel_rfl) (fun _ _ _ h => h) (Or.inl ⟨by rfl, fun w _ => by go_simp⟩) t8 ?_
        simp only [Act.put, List.setIfInBounds_toArray, List.set_cons_zero, List.set_cons_succ]
        refine any_take 34 (i := 12) (fuel := 7) (v := .bool true) rfl rfl (by kernel_rfl) (by kernel_rfl) (by kernel_rfl) (fun _ _ _ h => h) (Or.inl ⟨by rfl, fun w _ => by go_simp⟩) t8 ?_
        simp only [Act.put, List.setIfInBounds_toArray, List.set_cons_zero, List.set_cons_succ]
        refine any_take 35 (i := 13) (fuel := 6) (v := .slice L k e) rfl rfl (by kernel_rfl) (by kernel_rfl) (by kernel_rfl) (fun _ _ _ h => h) (Or.inl ⟨by rfl, fun w _ => by go_simp⟩) t8 ?_
        simp only [Act.put, List.setIfInBounds_toArray, List.set_cons_zero, List.set_cons_succ]
        refine any_take 37 (i := 15) (fuel := 5) (v := .slice L k e) rfl rfl (by kernel_rfl) (by kernel_rfl) (by kernel_rfl) (fun _ _ _ h => h) (Or.inl ⟨by rfl, fun w _ => by go_simp⟩) t8 ?_
        simp only [Act.put, List.setIfInBounds_toArray, List.set_cons_zero, List.set_cons_succ]
        refine wpAnyH_ready (rs := [14]) (fuel := 4) (by kernel_rfl) (by simp) ?_
        refine AllReadyH.cons rfl (fun K hK => ?_) AllReadyH.nil
        go_simp
        go_wp2_with (go_at_call 23; refine (cmt_next (hl5 _ t8) hnk ho).mono ?_; rintro r w9 ⟨rfl, hS9⟩; rw [HN.out])
        refine hK.out _ _ ?_ (fun t9 => ?_)
        · exact t8.tr hS9
        clear hK K
        refine wpAnyH_ready (rs := [16]) (fuel := 3) (by kernel_rfl) (by simp) ?_
        refine AllReadyH.cons rfl (fun K hK => ?_) AllReadyH.nil
        go_simp
        go_wp2_with (go_at_call 24; refine (next_ref (hl5 _ t9) hnk ho).mono ?_; rintro r w10 ⟨rfl, hS10⟩; rw [HN.out])
        refine hK.out _ _ ?_ (fun t10 => ?_)
        · exact t9.tr hS10
        clear hK K
        refine any_take 39 (i := 17) (fuel := 2) (v := .bool true) rfl rfl (by kernel_rfl) (by kernel_rfl) (by kernel_rfl) (fun _ _ _ h => h) (Or.inl ⟨by rfl, fun w _ => by go_simp⟩) t10 ?_
        simp only [Act.put, List.setIfInBounds_toArray, List.set_cons_zero, List.set_cons_succ]
        refine any_take 40 (i := 18) (fuel := 1) (v := .bool true) rfl rfl (by kernel_rfl) (by kernel_rfl) (by kernel_rfl) (fun _ _ _ h => h) (Or.inl ⟨by rfl, fun w _ => by go_simp⟩) t10 ?_
        simp only [Act.put, List.setIfInBounds_toArray, List.set_cons_zero, List.set_cons_succ]
        refine any_take 6 (i := 19) (fuel := 0) (v := .bool true) rfl rfl (by kernel_rfl) (by kernel_rfl) (by kernel_rfl) (fun _ _ _ h => h) (Or.inl ⟨by rfl, fun w _ => by go_simp⟩) t10 ?_
        simp only [Act.put, List.setIfInBounds_toArray, List.set_cons_zero, List.set_cons_succ]
        refine wpAnyH_done (by kernel_rfl) ?_ 0
        go_wp2
        go_ret
        exact ⟨rfl, (((((hS1.tr hS2).tr hS3).tr hS4).tr hS5).tr t10).below⟩
      · go_wp2_with (first
          | (refine wl_box rfl 50 (.tmp 0) rfl (.agg (cmtc A n c x).toArray) rfl ?_; intro w1 hb1 hS1 hw; clear hw)
          | (refine wl_box rfl 50 (.tmp 1) rfl (.agg (cmtc B m d y).toArray) rfl ?_; intro w2 hb2 hS2 hw; clear hw; have hc1 : Cells w2 w.heap.size 0 (cmtc A n c x) := (hb1.step hS2 id).cells; have hc2 : Cells w2 w1.heap.size 0 (cmtc B m d y) := hb2.cells; clear hb1 hb2)
          | (go_at_call 19; refine (cmt_awake _).mono ?_; rintro r w3 ⟨rfl, hS3⟩; have hc13 := hc1.step hS3 id; have hc23 := hc2.step hS3 id; clear hc1 hc2)
          | (refine wl_load rfl 50 _ rfl w.heap.size 0 rfl (cmtc A n c x) _ Try.underlying50 rfl (by rw [cmt_size, cmtc_length]) hc13 ?_)
          | (go_at_call 20; have hh := Hf; clear hh; refine (few_cmt (x := x)).mono ?_; rintro r w4 ⟨rfl, hS4⟩; rw [Hf.out]; have hc14 := hc13.step hS4 id; have hc24 := hc23.step hS4 id; clear hc13 hc23 Hf)
          | (refine wl_load rfl 50 _ rfl w1.heap.size 0 rfl (cmtc B m d y) _ Try.underlying50 rfl (by rw [cmt_size, cmtc_length]) hc24 ?_)
          | (go_at_call 20; have hh := Hg; clear hh; refine (few_cmt (x := y)).mono ?_; rintro r w5 ⟨rfl, hS5⟩; rw [Hg.out]; have hc15 := hc14.step hS5 id; have hc25 := hc24.step hS5 id; clear hc14 hc24 Hg))
        go_ret
        exact ⟨rfl, ((((hS1.tr hS2).tr hS3).tr hS4).tr hS5).below⟩
    · have Hg := Lib.hid (Bool.eq_false_iff.2 hg)
      clear hg
      go_wp2_with (first
        | (refine wl_box rfl 50 (.tmp 0) rfl (.agg (cmtc A n c x).toArray) rfl ?_; intro w1 hb1 hS1 hw; clear hw)
        | (refine wl_box rfl 50 (.tmp 1) rfl (.agg (cmtc B m d y).toArray) rfl ?_; intro w2 hb2 hS2 hw; clear hw; have hc1 : Cells w2 w.heap.size 0 (cmtc A n c x) := (hb1.step hS2 id).cells; have hc2 : Cells w2 w1.heap.size 0 (cmtc B m d y) := hb2.cells; clear hb1 hb2)
        | (go_at_call 19; refine (cmt_awake _).mono ?_; rintro r w3 ⟨rfl, hS3⟩; have hc13 := hc1.step hS3 id; have hc23 := hc2.step hS3 id; clear hc1 hc2)
        | (refine wl_load rfl 50 _ rfl w.heap.size 0 rfl (cmtc A n c x) _ Try.underlying50 rfl (by rw [cmt_size, cmtc_length]) hc13 ?_)
        | (go_at_call 20; have hh := Hf; clear hh; refine (few_cmt (x := x)).mono ?_; rintro r w4 ⟨rfl, hS4⟩; rw [Hf.out]; have hc14 := hc13.step hS4 id; have hc24 := hc23.step hS4 id; clear hc13 hc23 Hf)
        | (refine wl_load rfl 50 _ rfl w1.heap.size 0 rfl (cmtc B m d y) _ Try.underlying50 rfl (by rw [cmt_size, cmtc_length]) hc24 ?_)
        | (go_at_call 20; have hh := Hg; clear hh; refine (few_cmt (x := y)).mono ?_; rintro r w5 ⟨rfl, hS5⟩; rw [Hg.out]; have hc15 := hc14.step hS5 id; have hc25 := hc24.step hS5 id; clear hc14 hc24 Hg))
      go_ret
      exact ⟨rfl, ((((hS1.tr hS2).tr hS3).tr hS4).tr hS5).below⟩
  · have Hf := Lib.hid (Bool.eq_false_iff.2 hf)
    clear hf
    go_wp2_with (first
      | (refine wl_box rfl 50 (.tmp 0) rfl (.agg (cmtc A n c x).toArray) rfl ?_; intro w1 hb1 hS1 hw; clear hw)
      | (refine wl_box rfl 50 (.tmp 1) rfl (.agg (cmtc B m d y).toArray) rfl ?_; intro w2 hb2 hS2 hw; clear hw; have hc1 : Cells w2 w.heap.size 0 (cmtc A n c x) := (hb1.step hS2 id).cells; have hc2 : Cells w2 w1.heap.size 0 (cmtc B m d y) := hb2.cells; clear hb1 hb2)
      | (go_at_call 19; refine (cmt_awake _).mono ?_; rintro r w3 ⟨rfl, hS3⟩; have hc13 := hc1.step hS3 id; have hc23 := hc2.step hS3 id; clear hc1 hc2)
      | (refine wl_load rfl 50 _ rfl w.heap.size 0 rfl (cmtc A n c x) _ Try.underlying50 rfl (by rw [cmt_size, cmtc_length]) hc13 ?_)
      | (go_at_call 20; have hh := Hf; clear hh; refine (few_cmt (x := x)).mono ?_; rintro r w4 ⟨rfl, hS4⟩; rw [Hf.out]; have hc14 := hc13.step hS4 id; have hc24 := hc23.step hS4 id; clear hc13 hc23 Hf))
    go_ret
    exact ⟨rfl, (((hS1.tr hS2).tr hS3).tr hS4).below⟩
end Go.Proofs.Ytemhfociaikijaa
