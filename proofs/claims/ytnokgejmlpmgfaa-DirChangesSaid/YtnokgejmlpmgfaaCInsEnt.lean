/- slices.Insert at entries, of one element. -/
import Derived.Test.YtnokgejmlpmgfaaCB2
import Derived.Test.YtnokgejmlpmgfaaCTy
import Derived.Test.YtnokgejmlpmgfaaCDirM
import Derived.Test.YtnokgejmlpmgfaaCB1
import Derived.Lib.Overlaps
namespace Go.Proofs.Ytnokgejmlpmgfaa
open Go.RowKit
set_option linter.unusedVariables false
set_option linter.unusedSimpArgs false

theorem overlaps_ent {w : World} {gb g : Nat} {t tB : TypeId} {cs : Array Value} {ys : List Value} (hb : Blk w gb t ys.toArray) (hg : Blk w g tB cs) (hne : gb ≠ g) (hcs : cs.size ≠ 0) (off la ca lb cb : Nat) :
    (callFunc 110 #[.slice (some ⟨gb, 0, none⟩) la ca, .slice (some ⟨g, off, none⟩) lb cb]).run Try.prog w = .ok (.value (.bool false)) w := by
  have hz : ∀ w, (Go.sizeOf 87).run Try.prog w = .ok 100 w := fun w => by
    have : (Try.prog.info? 87).map (·.size) = some 100 := by kernel_rfl
    cases hq : Try.prog.info? 87 with
    | none => simp [hq] at this
    | some i =>
      have hi : i.size = 100 := by simpa [hq] using this
      simp [sizeOf, typeInfo, hq, hi]
  have h1 := hb.cell 0
  have hgb : w.heap[gb]? = some (.cells ys.toArray t (0, 0)) := hb
  have hgg : w.heap[g]? = some (.cells cs tB (0, 0)) := hg
  have hrun := Go.Lib.run_overlaps_apart (P := Try.prog) w 22 4 87 Try.underlying22 100 hz ⟨gb, 0, none⟩ ⟨g, off, none⟩ la ca lb cb hne t tB ys.length cs.size (by unfold World.shape?; rw [hgb]; simp) (by unfold World.shape?; rw [hgg]) hcs (hb.frozen 0) (hb.frozen _)
  rw [run_callFunc_extern (P := Try.prog) (f := 110) Try.func110 (by kernel_rfl) (by kernel_rfl) (by kernel_rfl) (e := Extern.SlicesOverlaps.overlaps #[22, 22] #[4]) (by kernel_rfl), hrun]
  rfl
set_option maxRecDepth 100000 in
set_option maxHeartbeats 2000000 in
theorem insE_code {S : Nat → Prop} {w0 w : World} {L F F2 : List Ent} {A : Option Addr} {n c i gb : Nat} {tb : TypeId} {xs ys : List Value} (h : St S w0 w L) [k : SlotO L A 87 100 n c xs F] [kb : SlotB F gb tb ys F2] (hi : i ≤ n) (hn : n ≤ 1000000) (hyl : ys.length = 100) (h1 : ∀ u ∈ ys, u.oneCell' = true) (h2 : ∀ u ∈ xs, u.oneCell' = true) :
    Calls Try.prog 85 #[.slice A n c, .int .i64 (i : Int), .slice (some ⟨gb, 0, none⟩) 1 1] w fun e w' => ∃ A' c', e = .returned (.slice A' (n + 1) c') ∧ St S w0 w' (eOwn 87 100 A' (n + 1) c' (xs.take (i * 100) ++ ys ++ xs.drop (i * 100)) :: F) := by
  replace h := h.perm k.perm
  have hxl : xs.length = n * 100 := (h.row A).1
  have hc : c ≤ 9223372036854775807 := by have := (h.sl A n c).cap; simpa [maxLen] using this
  have hle := (h.row A).sl.le
  have hyv : ∀ {w : World}, Blk w gb tb ys.toArray → Sl w (some ⟨gb, 0, none⟩) 1 1 100 ys := fun hb => Blk.slv hb hyl
  by_cases hin : i = n
  · subst hin
    have f1 : (i : Int) ≤ (c : Int) := by omega
    have e1 : xs.take (i * 100) ++ ys ++ xs.drop (i * 100) = xs ++ ys := by
      rw [List.take_of_length_le (by omega), List.drop_eq_nil_of_le (by omega), List.append_nil]
    rw [e1]
    clear e1
    go_enter Try.func85, Try.ntmps85
    go_wp2_with (first
      | (refine wl_runs rfl (ex_append h _ _ _ rfl A rfl (some ⟨gb, 0, none⟩) 1 1 rfl (hyv (h.blk gb)) h1 (by simp [maxLen]; omega) (by omega)) ?_; clear h; rintro _ w ⟨A2, c2, rfl, h⟩))
    all_goals
      rename_i q
      go_ret
      exact ⟨A2, c2, rfl, q⟩
  · have hlt : i < n := by omega
    clear hin hi
    obtain ⟨g, off, rfl, _⟩ := (h.sl A n c).pos (by omega)
    have hci : ¬ c = i := by omega
    have f0 : ((i : Int) == (n : Int)) = false := by simp; omega
    by_cases hgr : c < n + 1
    · have f2 : (c : Int) < (n : Int) + 1 := by omega
      have f3 : (n : Int) + 1 - (i : Int) = ((n + 1 - i : Nat) : Int) := by omega
      have e5 : i + (n + 1 - i) = n + 1 := by omega
      have hmin1 : Nat.min 1 (n + 1 - i) = 1 := Nat.min_eq_left (by omega)
      have hmin2 : Nat.min (n - i) (n + 1 - (i + 1)) = n - i := by rw [show n + 1 - (i + 1) = n - i by omega]; exact Nat.min_self _
      have e6 : n + 1 - (i + 1) = n - i := by omega
      have Hil := fun Z hz => Lib.hid (ins_list (sz := 100) (n := n) (i := i) (xs := xs) (ys := ys) (Z := Z) hxl hyl (by omega) hz rfl rfl)
      obtain ⟨Z, hZ⟩ : ∃ Z, (Builtin.zeroCells (c_api_Entry (u8s (zeros 32)) (.string ByteArray.empty) (.int .i64 0) (u8s (zeros 32)) (u8s (zeros 32)) (.int .u32 0) (.int .u32 0)).toArray (n + 1 - i)).toList = Z := ⟨_, rfl⟩
      have hZl : Z.length = (n + 1 - i) * 100 := by rw [← hZ]; simp [Builtin.zeroCells, c_api_Entry, u8s_length, zeros]
      have HI := Hil Z hZl
      have HZ := Lib.hid hZ
      clear Hil hZ
      go_enter Try.func85, Try.ntmps85
      go_upto_region 11 with (first
        | (refine wl_runs rfl (ex_append_made h _ _ _ _ rfl Try.underlying3 (some ⟨g, off, none⟩) i (n + 1 - i) rfl rfl (by omega) (by omega) (by omega) (by omega) rfl) ?_; clear h; rintro _ w ⟨A2, c2, rfl, h⟩; rw [e5] at h ⊢; rw [HZ.out] at h; have hcc := (h.sl A2 (n + 1) c2).le; have hc2 : ¬ c2 = i := (by omega); have hc3 : ¬ c2 = i + 1 := (by omega); obtain ⟨g2, off2, rfl, _⟩ := (h.sl A2 (n + 1) c2).pos (by omega))
        | (refine wl_runs rfl (ex_copy_k h _ _ _ _ rfl g2 off2 i (n + 1 - i) (c2 - i) rfl (by omega) (some ⟨gb, 0, none⟩) 1 1 1 rfl (hyv (h.blk gb)) h1 hmin1) ?_; clear h; rintro _ w ⟨rfl, h⟩))
      have hw1 : IntKind.i64.wrap ((i : Int) + 1) = ((i + 1 : Nat) : Int) := (by rw [IntKind.wrap_i64]; omega)
      have f7 : ((i + 1 : Nat) : Int) ≤ (n : Int) + 1 := by omega
      have f8 : (0 : Int) ≤ (i : Int) + 1 := by omega
      have f9 : (i : Int) ≤ (n : Int) := by omega
      have e7 : n + 1 - (i + 1) = n - i := by omega
      refine wp_region_K 8 (fun w' => St _ _ w' _) (by kernel_rfl) h.drew ?_; replace h := h.drew
      refine wpAnyK_pure 46 (v := ?_) (i := 0) (fuel := 8) rfl rfl (by kernel_rfl) (by kernel_rfl) (by kernel_rfl) (by decide) (fun _ _ _ h => h) (Or.inl ⟨by rfl, fun w _ => ?_⟩) ?_; rotate_left; (go_simp; with_reducible rfl); simp only [Act.put, List.setIfInBounds_toArray, List.set_cons_zero, List.set_cons_succ]
      refine wpAnyK_pure 47 (v := ?_) (i := 1) (fuel := 7) rfl rfl (by kernel_rfl) (by kernel_rfl) (by kernel_rfl) (by decide) (fun _ _ _ h => h) (Or.inl ⟨by rfl, fun w _ => ?_⟩) ?_; rotate_left; (go_simp; with_reducible rfl); simp only [Act.put, List.setIfInBounds_toArray, List.set_cons_zero, List.set_cons_succ]
      refine wpAnyK_pure 48 (v := ?_) (i := 2) (fuel := 6) rfl rfl (by kernel_rfl) (by kernel_rfl) (by kernel_rfl) (by decide) (fun _ _ _ h => h) (Or.inl ⟨by rfl, fun w _ => ?_⟩) ?_; rotate_left; (go_simp; with_reducible rfl); simp only [Act.put, List.setIfInBounds_toArray, List.set_cons_zero, List.set_cons_succ]
      refine wpAnyK_pure 49 (v := ?_) (i := 3) (fuel := 5) rfl rfl (by kernel_rfl) (by kernel_rfl) (by kernel_rfl) (by decide) (fun _ _ _ h => h) (Or.inl ⟨by rfl, fun w _ => ?_⟩) ?_; rotate_left; (go_simp; with_reducible rfl); simp only [Act.put, List.setIfInBounds_toArray, List.set_cons_zero, List.set_cons_succ]
      refine wpAnyK_pure 50 (v := ?_) (i := 4) (fuel := 4) rfl rfl (by kernel_rfl) (by kernel_rfl) (by kernel_rfl) (by decide) (fun _ _ _ h => h) (Or.inl ⟨by rfl, fun w _ => ?_⟩) ?_; rotate_left; (go_simp; with_reducible rfl); simp only [Act.put, List.setIfInBounds_toArray, List.set_cons_zero, List.set_cons_succ]
      refine wpAnyK_pure 51 (v := ?_) (i := 5) (fuel := 3) rfl rfl (by kernel_rfl) (by kernel_rfl) (by kernel_rfl) (by decide) (fun _ _ _ h => h) (Or.inl ⟨by rfl, fun w _ => ?_⟩) ?_; rotate_left; (go_simp; with_reducible rfl); simp only [Act.put, List.setIfInBounds_toArray, List.set_cons_zero, List.set_cons_succ]
      refine wpAnyK_pure 52 (v := ?_) (i := 6) (fuel := 2) rfl rfl (by kernel_rfl) (by kernel_rfl) (by kernel_rfl) (by decide) (fun _ _ _ h => h) (Or.inl ⟨by rfl, fun w _ => ?_⟩) ?_; rotate_left; (go_simp; with_reducible rfl); simp only [Act.put, List.setIfInBounds_toArray, List.set_cons_zero, List.set_cons_succ]
      refine wpAnyK_pure 53 (v := ?_) (i := 7) (fuel := 1) rfl rfl (by kernel_rfl) (by kernel_rfl) (by kernel_rfl) (by decide) (fun _ _ _ h => h) (Or.inl ⟨by rfl, fun w _ => ?_⟩) ?_; rotate_left; (go_simp; with_reducible rfl); simp only [Act.put, List.setIfInBounds_toArray, List.set_cons_zero, List.set_cons_succ]
      refine wpAnyK_one (i := 8) (fuel := 0) rfl (by kernel_rfl) rfl (fun K hK => ?_)
      refine op_runs (some 54) rfl (ex_copy_k h _ _ _ _ rfl g2 off2 (i + 1) (n - i) (c2 - (i + 1)) rfl (by omega) (some ⟨g, off + i * 100, none⟩) (n - i) (n - i) (c - i) rfl ((h.sl (some ⟨g, off, none⟩) n c).tail hlt) (fun u hu => h2 u (List.mem_of_mem_drop hu)) (by exact Nat.min_self _)) ?_; clear h; rintro _ w ⟨rfl, h⟩; refine hK.out _ _ (SJ.past (by kernel_rfl)) ?_; clear hK K
      try simp only [Act.put, List.setIfInBounds_toArray, List.set_cons_zero, List.set_cons_succ]
      refine wpAnyK_done (by kernel_rfl) ?_
      go_wp2
      go_ret
      refine ⟨_, c2, rfl, ?_⟩
      rw [HI.out] at h
      exact h.to
    · have f2 : ¬ (c : Int) < (n : Int) + 1 := by omega
      have hmin2 : Nat.min (n - i) (n + 1 - (i + 1)) = n - i := by rw [show n + 1 - (i + 1) = n - i by omega]; exact Nat.min_self _
      have hmin1 : Nat.min 1 (n + 1 - i) = 1 := Nat.min_eq_left (by omega)
      have hb := (h.blk gb (k := SlotB.miss _ _ _ _ _ _))
      obtain ⟨Z, hZl, hm⟩ := h.moreRow (some ⟨g, off, none⟩) 1 (by omega)
      have HI := Lib.hid (ins_list2 (sz := 100) (n := n) (i := i) (xs := xs) (ys := ys) (Z := Z) hxl hyl (by omega) (by omega) rfl rfl)
      have e6 : n + 1 - (i + 1) = n - i := by omega
      have hne : gb ≠ g := fun e => ((List.pairwise_cons.1 h.apart).1 (eBlk gb tb ys) (kb.perm.mem_iff.2 List.mem_cons_self) gb).1 ⟨⟨g, off, none⟩, rfl, e.symm⟩ (.inl rfl)
      obtain ⟨_, ⟨h4, _⟩ | ⟨g', off', cur, h4, hg, hnc, hcm, hle2, htk⟩⟩ := h.row (some ⟨g, off, none⟩)
      · cases h4
      cases h4
      have hov := overlaps_ent (w := w) hb hg hne (by omega) (off + (i + 1) * 100) 1 1 (n - i) (c - (i + 1))
      have hci2 : ¬ c = i + 1 := by omega
      clear h
      have h := hm
      clear hm hg htk
      go_enter Try.func85, Try.ntmps85
      go_upto_region 15 with (fail)
      have hw1 : IntKind.i64.wrap ((i : Int) + 1) = ((i + 1 : Nat) : Int) := (by rw [IntKind.wrap_i64]; omega)
      have f7 : ((i + 1 : Nat) : Int) ≤ (n : Int) + 1 := by omega
      have f8 : (0 : Int) ≤ (i : Int) + 1 := by omega
      have f9 : (i : Int) ≤ (n : Int) + 1 := by omega
      have f10 : i ≤ n := by omega
      have f11 : i ≤ n + 1 := by omega
      have htail : ∀ {w : World}, Sl w (some ⟨g, off, none⟩) (n + 1) c 100 (xs ++ Z) → Sl w (some ⟨g, off + i * 100, none⟩) (n - i) (n - i) 100 (xs.drop (i * 100)) := fun hh => by
        have := hh.take (j := n) (m := n) (by omega) (by omega) (Nat.le_refl _)
        rw [List.take_left' hxl] at this
        exact this.tail hlt
      have hmin3 : Nat.min (n + 1 - i) (n - i) = n - i := Nat.min_eq_right (by omega)
      refine wp_region_K 8 (fun w' => St _ _ w' _) (by kernel_rfl) h.drew ?_; replace h := h.drew
      refine wpAnyK_pure 69 (v := ?_) (i := 0) (fuel := 8) rfl rfl (by kernel_rfl) (by kernel_rfl) (by kernel_rfl) (by decide) (fun _ _ _ h => h) (Or.inl ⟨by rfl, fun w _ => ?_⟩) ?_; rotate_left; (go_simp; with_reducible rfl); simp only [Act.put, List.setIfInBounds_toArray, List.set_cons_zero, List.set_cons_succ]
      refine wpAnyK_pure 70 (v := ?_) (i := 1) (fuel := 7) rfl rfl (by kernel_rfl) (by kernel_rfl) (by kernel_rfl) (by decide) (fun _ _ _ h => h) (Or.inl ⟨by rfl, fun w _ => ?_⟩) ?_; rotate_left; (go_simp; with_reducible rfl); simp only [Act.put, List.setIfInBounds_toArray, List.set_cons_zero, List.set_cons_succ]
      refine wpAnyK_pure 71 (v := ?_) (i := 2) (fuel := 6) rfl rfl (by kernel_rfl) (by kernel_rfl) (by kernel_rfl) (by decide) (fun _ _ _ h => h) (Or.inl ⟨by rfl, fun w _ => ?_⟩) ?_; rotate_left; (go_simp; with_reducible rfl); simp only [Act.put, List.setIfInBounds_toArray, List.set_cons_zero, List.set_cons_succ]
      refine wpAnyK_pure 72 (v := ?_) (i := 3) (fuel := 5) rfl rfl (by kernel_rfl) (by kernel_rfl) (by kernel_rfl) (by decide) (fun _ _ _ h => h) (Or.inl ⟨by rfl, fun w _ => ?_⟩) ?_; rotate_left; (go_simp; with_reducible rfl); simp only [Act.put, List.setIfInBounds_toArray, List.set_cons_zero, List.set_cons_succ]
      refine wpAnyK_pure 73 (v := ?_) (i := 4) (fuel := 4) rfl rfl (by kernel_rfl) (by kernel_rfl) (by kernel_rfl) (by decide) (fun _ _ _ h => h) (Or.inl ⟨by rfl, fun w _ => ?_⟩) ?_; rotate_left; (go_simp; with_reducible rfl); simp only [Act.put, List.setIfInBounds_toArray, List.set_cons_zero, List.set_cons_succ]
      refine wpAnyK_pure 74 (v := ?_) (i := 5) (fuel := 3) rfl rfl (by kernel_rfl) (by kernel_rfl) (by kernel_rfl) (by decide) (fun _ _ _ h => h) (Or.inl ⟨by rfl, fun w _ => ?_⟩) ?_; rotate_left; (go_simp; with_reducible rfl); simp only [Act.put, List.setIfInBounds_toArray, List.set_cons_zero, List.set_cons_succ]
      refine wpAnyK_pure 75 (v := ?_) (i := 6) (fuel := 2) rfl rfl (by kernel_rfl) (by kernel_rfl) (by kernel_rfl) (by decide) (fun _ _ _ h => h) (Or.inl ⟨by rfl, fun w _ => ?_⟩) ?_; rotate_left; (go_simp; with_reducible rfl); simp only [Act.put, List.setIfInBounds_toArray, List.set_cons_zero, List.set_cons_succ]
      refine wpAnyK_pure 76 (v := ?_) (i := 7) (fuel := 1) rfl rfl (by kernel_rfl) (by kernel_rfl) (by kernel_rfl) (by decide) (fun _ _ _ h => h) (Or.inl ⟨by rfl, fun w _ => ?_⟩) ?_; rotate_left; (go_simp; with_reducible rfl); simp only [Act.put, List.setIfInBounds_toArray, List.set_cons_zero, List.set_cons_succ]
      refine wpAnyK_one (i := 8) (fuel := 0) rfl (by kernel_rfl) rfl (fun K hK => ?_)
      refine op_runs (some 77) rfl (ex_copy_k h _ _ _ _ rfl g off (i + 1) (n - i) (c - (i + 1)) rfl (by omega) (some ⟨g, off + i * 100, none⟩) (n - i) (n + 1 - i) (c - i) rfl (htail (h.sl (some ⟨g, off, none⟩) (n + 1) c)) (fun u hu => h2 u (List.mem_of_mem_drop hu)) hmin3) ?_; clear h; rintro _ w ⟨rfl, h⟩; refine hK.out _ _ (SJ.past (by kernel_rfl)) ?_; clear hK K
      try simp only [Act.put, List.setIfInBounds_toArray, List.set_cons_zero, List.set_cons_succ]
      refine wpAnyK_done (by kernel_rfl) ?_
      go_wp2_with (first
        | (refine wl_runs rfl (ex_copy_k h _ _ _ _ rfl g off i (n + 1 - i) (c - i) rfl (by omega) (some ⟨gb, 0, none⟩) 1 1 1 rfl (hyv (h.blk gb)) h1 hmin1) ?_; clear h; rintro _ w ⟨rfl, h⟩))
      go_ret
      refine ⟨_, c, rfl, ?_⟩
      rw [HI.out] at h
      rw [← List.append_assoc]
      exact h
end Go.Proofs.Ytnokgejmlpmgfaa
