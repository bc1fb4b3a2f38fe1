/- The reference's line: what is received. -/
import Derived.Test.YthnjfpjojmcccaaCLinkRef
namespace Go.Proofs.Ythnjfpjojmcccaa
open Go.RowKit Go.Shelf
set_option linter.unusedVariables false
set_option linter.unusedSimpArgs false

/-- Of the first n the first of those that are due first. -/
structure First (l : List Mg) (n k : Nat) : Prop where
  lt : k < n
  le : n ≤ l.length
  bef : ∀ j (hj : j < l.length), j < k → (l[k]'(by omega)).due < l[j].due
  aft : ∀ j (hj : j < l.length), k < j → j < n → (l[k]'(by omega)).due ≤ l[j].due
theorem First.keep {l : List Mg} {n k : Nat} (h : First l n k) (hn : n < l.length) (hle : (l[k]'(by have := h.lt; have := h.le; omega)).due ≤ l[n].due) : First l (n + 1) k :=
  ⟨by have := h.lt; omega, hn, h.bef, fun j hj h1 h2 => by
    rcases Nat.lt_or_ge j n with h3 | h3
    · exact h.aft j hj h1 h3
    · have h4 : j = n := by omega
      subst h4
      exact hle⟩
theorem First.turn {l : List Mg} {n k : Nat} (h : First l n k) (hn : n < l.length) (hlt : l[n].due < (l[k]'(by have := h.lt; have := h.le; omega)).due) : First l (n + 1) n :=
  ⟨by omega, hn, fun j hj h1 => by
    rcases Nat.lt_trichotomy j k with h2 | rfl | h2
    · have := h.bef j hj h2; omega
    · exact hlt
    · have := h.aft j hj h2 h1; omega, fun j hj h1 h2 => by omega⟩
theorem flat_take3 {l : List Mg} {k : Nat} (hk : k ≤ l.length) : (l.flatMap mgr).take (k * 2) = (l.take k).flatMap mgr ∧ (l.flatMap mgr).drop (k * 2) = (l.drop k).flatMap mgr := by
  have h1 : ((l.take k).flatMap mgr).length = k * 2 := by rw [length_flatMap mgr_length, List.length_take, Nat.min_eq_left hk]
  have h2 : l.flatMap mgr = (l.take k).flatMap mgr ++ (l.drop k).flatMap mgr := by rw [← List.flatMap_append, List.take_append_drop]
  rw [h2]
  exact ⟨List.take_left' h1, List.drop_left' h1⟩
theorem First.one {l : List Mg} (hn : 0 < l.length) : First l 1 0 := ⟨by omega, hn, fun j hj h1 => by omega, fun j hj h1 h2 => by omega⟩
theorem rcv_end {S : Nat → Prop} {w0 w : World} {F : List Ent} {g : Nat} {fA A2 : Option Addr} {fc c2 k r sent : Nat} {fates : List Fa} {wait : List Mg} (hln : (wait.take k ++ wait.drop (k + 1)).length = r) (hk : k < wait.length)
    (h : St S w0 w (eSls (wait.map mgp) :: eBlk g 77 (c_tabulariumref18_Link (.slice fA fates.length fc) (.int .i64 (sent : Int)) (.slice A2 r c2)) :: eSl fA fates.length fc 2 (fates.flatMap fac) :: eOwn 113 2 A2 r c2 ((wait.take k ++ wait.drop (k + 1)).flatMap mgr) :: F)) :
    St S w0 w (eSl wait[k].A wait[k].body.length wait[k].c 1 (u8s wait[k].body) :: eRk g ⟨fA, fc, A2, c2⟩ ⟨fates, sent, wait.take k ++ wait.drop (k + 1)⟩ :: F) := by
  subst hln
  have h3 := h.poolGet (wait.map mgp) (s := mgp wait[k]) (List.mem_map.2 ⟨wait[k], List.getElem_mem _, rfl⟩)
  have h4 := (h3.perm (.swap _ _ _)).poolSub (ss' := (wait.take k ++ wait.drop (k + 1)).map mgp) (fun y hy => by
    obtain ⟨x, hx, rfl⟩ := List.mem_map.1 hy
    refine List.mem_map.2 ⟨x, ?_, rfl⟩
    rcases List.mem_append.1 hx with hx | hx
    · exact List.mem_of_mem_take hx
    · exact List.mem_of_mem_drop hx)
  have h5 : St S w0 w (RKP g ⟨fA, fc, A2, c2⟩ ⟨fates, sent, wait.take k ++ wait.drop (k + 1)⟩ (eSl wait[k].A wait[k].body.length wait[k].c 1 (u8s wait[k].body) :: F)) := by
    have h6 : St S w0 w (eSls ((wait.take k ++ wait.drop (k + 1)).map mgp) :: eSl wait[k].A wait[k].body.length wait[k].c 1 (u8s wait[k].body) :: eBlk g 77 (c_tabulariumref18_Link (.slice fA fates.length fc) (.int .i64 (sent : Int)) (.slice A2 (wait.take k ++ wait.drop (k + 1)).length c2)) :: eSl fA fates.length fc 2 (fates.flatMap fac) :: eOwn 113 2 A2 (wait.take k ++ wait.drop (k + 1)).length c2 ((wait.take k ++ wait.drop (k + 1)).flatMap mgr) :: F) := h4
    exact h6.to
  exact h5.rkShut.perm (.swap _ _ _)
set_option maxRecDepth 100000 in
set_option maxHeartbeats 2000000 in
theorem rk_receive0 {S : Nat → Prop} {w0 w : World} {L F : List Ent} {g : Nat} {k : LkAt} {s : Lk} (h : St S w0 w L) [sl : SlotR2 L g k s F] (h0 : s.wait = []) :
    Calls Try.prog 29 #[.pointer (some ⟨g, 0, none⟩)] w fun e w' => e = .returned (.tuple #[.slice none 0 0, .bool false]) ∧ w' = w := by
  obtain ⟨fates, sent, wait⟩ := s
  obtain ⟨fA, fc, wA, wc⟩ := k
  replace h := h.rkOpen g
  simp only at h0
  subst h0
  replace h : St S w0 w (eBlk g 77 (c_tabulariumref18_Link (.slice fA fates.length fc) (.int .i64 (sent : Int)) (.slice wA 0 wc)) :: eSl fA fates.length fc 2 (fates.flatMap fac) :: eOwn 113 2 wA 0 wc [] :: eSls [] :: F) := h
  go_enter Try.func29, Try.ntmps29
  go_wp2_with (first | (refine wl_reads rfl (ex_loadv h _ _ rfl _ _ rfl) ?_))
  go_loopw [4, 13] (fun kv iv wr => iv = .int .i64 0 ∧ kv = .int .i64 (-1) ∧ wr = w) (fun _ _ _ => 0)
  case atStart => exact ⟨rfl, rfl, rfl⟩
  case round =>
    obtain ⟨rfl, rfl, rfl⟩ := hrel
    go_wp2
    go_ret2
    exact ⟨rfl, rfl⟩
set_option maxRecDepth 100000 in
set_option maxHeartbeats 2000000 in
theorem rk_receive1 {S : Nat → Prop} {w0 w : World} {L F : List Ent} {g : Nat} {k : LkAt} {s : Lk} (h : St S w0 w L) [sl : SlotR2 L g k s F] (h0 : 0 < s.wait.length) (hwl : s.wait.length ≤ 1000000) :
    Calls Try.prog 29 #[.pointer (some ⟨g, 0, none⟩)] w fun e w' => ∃ i k', ∃ hf : First s.wait s.wait.length i, e = .returned (.tuple #[.slice (s.wait[i]'hf.lt).A (s.wait[i]'hf.lt).body.length (s.wait[i]'hf.lt).c, .bool true]) ∧ St S w0 w' (eSl (s.wait[i]'hf.lt).A (s.wait[i]'hf.lt).body.length (s.wait[i]'hf.lt).c 1 (u8s (s.wait[i]'hf.lt).body) :: eRk g k' ⟨s.fates, s.sent, s.wait.take i ++ s.wait.drop (i + 1)⟩ :: F) := by
  obtain ⟨fates, sent, wait⟩ := s
  obtain ⟨fA, fc, wA, wc⟩ := k
  replace h := h.rkOpen g
  simp only at h h0 hwl ⊢
  obtain ⟨b, off, rfl, _⟩ := (h.sl wA wait.length wc).pos (by omega)
  have hel : ∀ {w}, Sl w (some ⟨b, off, none⟩) wait.length wc 2 (wait.flatMap mgr) → ∀ j (hj : j < wait.length), Cells w b (off + j * 2) (mgr wait[j]) := fun hs j hj => hs.elemAt mgr_length hj (by omega)
  have hlec := (h.sl (some ⟨b, off, none⟩) wait.length wc).le
  have hcap : wc ≤ 9223372036854775807 := by have := (h.sl (some ⟨b, off, none⟩) wait.length wc).cap; simpa [maxLen] using this
  go_enter Try.func29, Try.ntmps29
  go_wp2_with (first | (refine wl_reads rfl (ex_loadv h _ _ rfl _ _ rfl) ?_))
  go_loopw [4, 13] (fun kv iv wr => ∃ (i : Nat) (v : Int), iv = .int .i64 (i : Int) ∧ kv = .int .i64 v ∧ i ≤ wait.length ∧ Hid ((i = 0 ∧ v = -1) ∨ ∃ k : Nat, v = (k : Int) ∧ First wait i k) ∧ St S w0 wr (eBlk g 77 (c_tabulariumref18_Link (.slice fA fates.length fc) (.int .i64 (sent : Int)) (.slice (some ⟨b, off, none⟩) wait.length wc)) :: eSl fA fates.length fc 2 (fates.flatMap fac) :: eOwn 113 2 (some ⟨b, off, none⟩) wait.length wc (wait.flatMap mgr) :: eSls (wait.map mgp) :: F)) (fun _ iv _ => wait.length - (intOf iv).toNat)
  case atStart => exact ⟨0, -1, rfl, rfl, Nat.zero_le _, Lib.hid (.inl ⟨rfl, rfl⟩), h⟩
  case round =>
    clear h
    obtain ⟨i, v, rfl, rfl, hi, Hv, h⟩ := hrel
    by_cases hil : i < wait.length
    · have f1 : (i : Int) < (wait.length : Int) := by omega
      obtain ⟨x, hx⟩ : ∃ x, wait[i] = x := ⟨_, rfl⟩
      have Hx := Lib.hid hx
      have hci : ∀ {w}, Sl w (some ⟨b, off, none⟩) wait.length wc 2 (wait.flatMap mgr) → Cells w b (off + i * 2) (mgr x) := fun hs => by rw [← hx]; exact hel hs i hil
      have hrx : Row (mgr x) 2 := c_tabulariumref18_message.row _ _
      have t0 : ((i : Int)).toNat = i := by omega
      clear hx
      rcases Hv.out with ⟨rfl, rfl⟩ | ⟨k, rfl, hf⟩
      · replace hci : ∀ {w}, Sl w (some ⟨b, off, none⟩) wait.length wc 2 (wait.flatMap mgr) → Cells w b off (mgr x) := fun hs => by simpa using hci hs
        go_upto_region 5 with (first
          | (refine wl_runs rfl (ex_alloc h 113 rfl) ?_; clear h; rintro _ w ⟨gm, rfl, h⟩)
          | (refine wl_at 17 rfl ?_; refine wl_reads rfl (ex_load_at _ _ rfl b off rfl (mgr x) rfl (hci (h.sl (some ⟨b, off, none⟩) wait.length wc))) ?_)
          | (refine wl_runs rfl (ex_store h _ _ _ rfl _ _ rfl (mgr x) rfl) ?_; clear h; rintro _ w ⟨rfl, h⟩; try dsimp only [Act.put])
          | (refine wl_reads rfl (ex_loadv h _ _ rfl _ _ rfl) ?_))
        refine wp_region_K 15 (fun w' => St _ _ w' _) (by kernel_rfl) h.drew ?_; replace h := h.drew
        refine wpAnyK_pure 18 (v := ?_) (i := 0) (fuel := 14) rfl rfl (by kernel_rfl) (by kernel_rfl) (by kernel_rfl) (by decide) (fun _ _ _ h => h) (Or.inl ⟨by rfl, fun w _ => ?_⟩) ?_; rotate_left; (go_simp; with_reducible rfl); simp only [Act.put, List.setIfInBounds_toArray, List.set_cons_zero, List.set_cons_succ]
        refine wpAnyK_pure 19 (v := ?_) (i := 1) (fuel := 13) rfl rfl (by kernel_rfl) (by kernel_rfl) (by kernel_rfl) (by decide) (fun _ _ _ h => h) (Or.inl ⟨by rfl, fun w _ => ?_⟩) ?_; rotate_left; (go_simp; with_reducible rfl); simp only [Act.put, List.setIfInBounds_toArray, List.set_cons_zero, List.set_cons_succ]
        refine wpAnyK_pure 20 (v := ?_) (i := 2) (fuel := 12) rfl rfl (by kernel_rfl) (by kernel_rfl) (by kernel_rfl) (by decide) (fun _ _ _ h => h) (Or.inl ⟨by rfl, fun w _ => ?_⟩) ?_; rotate_left; (go_simp; with_reducible rfl); simp only [Act.put, List.setIfInBounds_toArray, List.set_cons_zero, List.set_cons_succ]
        refine wpAnyK_not 21 (i := 3) (fuel := 11) rfl rfl (by kernel_rfl) (by kernel_rfl) (by kernel_rfl) (by decide) (fun _ _ _ h => h) (by rfl) ?_; simp only [Act.put, List.setIfInBounds_toArray, List.set_cons_zero, List.set_cons_succ]
        refine wpAnyK_not 22 (i := 4) (fuel := 10) rfl rfl (by kernel_rfl) (by kernel_rfl) (by kernel_rfl) (by decide) (fun _ _ _ h => h) (by rfl) ?_; simp only [Act.put, List.setIfInBounds_toArray, List.set_cons_zero, List.set_cons_succ]
        refine wpAnyK_not 23 (i := 5) (fuel := 9) rfl rfl (by kernel_rfl) (by kernel_rfl) (by kernel_rfl) (by decide) (fun _ _ _ h => h) (by rfl) ?_; simp only [Act.put, List.setIfInBounds_toArray, List.set_cons_zero, List.set_cons_succ]
        refine wpAnyK_not 24 (i := 6) (fuel := 8) rfl rfl (by kernel_rfl) (by kernel_rfl) (by kernel_rfl) (by decide) (fun _ _ _ h => h) (by rfl) ?_; simp only [Act.put, List.setIfInBounds_toArray, List.set_cons_zero, List.set_cons_succ]
        refine wpAnyK_not 25 (i := 7) (fuel := 7) rfl rfl (by kernel_rfl) (by kernel_rfl) (by kernel_rfl) (by decide) (fun _ _ _ h => h) (by rfl) ?_; simp only [Act.put, List.setIfInBounds_toArray, List.set_cons_zero, List.set_cons_succ]
        refine wpAnyK_not 26 (i := 8) (fuel := 6) rfl rfl (by kernel_rfl) (by kernel_rfl) (by kernel_rfl) (by decide) (fun _ _ _ h => h) (by rfl) ?_; simp only [Act.put, List.setIfInBounds_toArray, List.set_cons_zero, List.set_cons_succ]
        refine wpAnyK_not 27 (i := 9) (fuel := 5) rfl rfl (by kernel_rfl) (by kernel_rfl) (by kernel_rfl) (by decide) (fun _ _ _ h => h) (by rfl) ?_; simp only [Act.put, List.setIfInBounds_toArray, List.set_cons_zero, List.set_cons_succ]
        refine wpAnyK_not 28 (i := 10) (fuel := 4) rfl rfl (by kernel_rfl) (by kernel_rfl) (by kernel_rfl) (by decide) (fun _ _ _ h => h) (by rfl) ?_; simp only [Act.put, List.setIfInBounds_toArray, List.set_cons_zero, List.set_cons_succ]
        refine wpAnyK_not 29 (i := 11) (fuel := 3) rfl rfl (by kernel_rfl) (by kernel_rfl) (by kernel_rfl) (by decide) (fun _ _ _ h => h) (by rfl) ?_; simp only [Act.put, List.setIfInBounds_toArray, List.set_cons_zero, List.set_cons_succ]
        refine wpAnyK_not 30 (i := 12) (fuel := 2) rfl rfl (by kernel_rfl) (by kernel_rfl) (by kernel_rfl) (by decide) (fun _ _ _ h => h) (by rfl) ?_; simp only [Act.put, List.setIfInBounds_toArray, List.set_cons_zero, List.set_cons_succ]
        refine wpAnyK_not 31 (i := 13) (fuel := 1) rfl rfl (by kernel_rfl) (by kernel_rfl) (by kernel_rfl) (by decide) (fun _ _ _ h => h) (by rfl) ?_; simp only [Act.put, List.setIfInBounds_toArray, List.set_cons_zero, List.set_cons_succ]
        refine wpAnyK_pure 32 (v := ?_) (i := 14) (fuel := 0) rfl rfl (by kernel_rfl) (by kernel_rfl) (by kernel_rfl) (by decide) (fun _ _ _ h => h) (Or.inl ⟨by rfl, fun w _ => ?_⟩) ?_; rotate_left; (go_simp; with_reducible rfl); simp only [Act.put, List.setIfInBounds_toArray, List.set_cons_zero, List.set_cons_succ]
        refine wpAnyK_done (by kernel_rfl) ?_
        go_wp2
        refine ⟨⟨1, 0, rfl, rfl, by omega, Lib.hid (.inr ⟨0, rfl, First.one hil⟩), h.to⟩, ?_⟩
        simp only [intOf]
        omega
      · have hk1 := hf.lt
        obtain ⟨y, hy⟩ : ∃ y, wait[k] = y := ⟨_, rfl⟩
        have Hy := Lib.hid hy
        have hck : ∀ {w}, Sl w (some ⟨b, off, none⟩) wait.length wc 2 (wait.flatMap mgr) → Cells w b (off + k * 2) (mgr y) := fun hs => by rw [← hy]; exact hel hs k (by omega)
        have t1 : ((k : Int)).toNat = k := by omega
        have f2 : ¬ (k : Int) < 0 := by omega
        have f3 : (k : Int) < (wait.length : Int) := by omega
        have f4 : k < wait.length := by omega
        have f5 : (0 : Int) ≤ (k : Int) := by omega
        clear hy
        go_upto_region 5 with (first
          | (refine wl_runs rfl (ex_alloc h 113 rfl) ?_; clear h; rintro _ w ⟨gm, rfl, h⟩)
          | (refine wl_at 17 rfl ?_; refine wl_reads rfl (ex_load_at _ _ rfl b (off + i * 2) rfl (mgr x) rfl (hci (h.sl (some ⟨b, off, none⟩) wait.length wc))) ?_)
          | (refine wl_runs rfl (ex_store h _ _ _ rfl _ _ rfl (mgr x) rfl) ?_; clear h; rintro _ w ⟨rfl, h⟩; try dsimp only [Act.put])
          | (refine wl_reads rfl (ex_loadv h _ _ rfl _ _ rfl) ?_))
        by_cases hlt : x.due < y.due
        · have g1 : (x.due : Int) < (y.due : Int) := by omega
          refine wp_region_K 15 (fun w' => St _ _ w' _) (by kernel_rfl) h.drew ?_; replace h := h.drew
          refine wpAnyK_pure 18 (v := ?_) (i := 0) (fuel := 14) rfl rfl (by kernel_rfl) (by kernel_rfl) (by kernel_rfl) (by decide) (fun _ _ _ h => h) (Or.inl ⟨by rfl, fun w _ => ?_⟩) ?_; rotate_left; (go_simp; with_reducible rfl); simp only [Act.put, List.setIfInBounds_toArray, List.set_cons_zero, List.set_cons_succ]
          refine wpAnyK_pure 19 (v := ?_) (i := 1) (fuel := 13) rfl rfl (by kernel_rfl) (by kernel_rfl) (by kernel_rfl) (by decide) (fun _ _ _ h => h) (Or.inl ⟨by rfl, fun w _ => ?_⟩) ?_; rotate_left; (go_simp; with_reducible rfl); simp only [Act.put, List.setIfInBounds_toArray, List.set_cons_zero, List.set_cons_succ]
          refine wpAnyK_pure 20 (v := ?_) (i := 2) (fuel := 12) rfl rfl (by kernel_rfl) (by kernel_rfl) (by kernel_rfl) (by decide) (fun _ _ _ h => h) (Or.inl ⟨by rfl, fun w _ => ?_⟩) ?_; rotate_left; (go_simp; with_reducible rfl); simp only [Act.put, List.setIfInBounds_toArray, List.set_cons_zero, List.set_cons_succ]
          refine wpAnyK_pure 21 (v := ?_) (i := 3) (fuel := 11) rfl rfl (by kernel_rfl) (by kernel_rfl) (by kernel_rfl) (by decide) (fun _ _ _ h => h) (Or.inl ⟨by rfl, fun w _ => ?_⟩) ?_; rotate_left; (go_simp; with_reducible rfl); simp only [Act.put, List.setIfInBounds_toArray, List.set_cons_zero, List.set_cons_succ]
          refine wpAnyK_load 22 (i := 4) (fuel := 10) rfl rfl (by kernel_rfl) (by kernel_rfl) (by kernel_rfl) (.inr (by decide)) (by decide) (fun _ _ _ h => h) rfl (fun w h => ex_loadv h _ _ rfl _ _ rfl) ?_; simp only [Act.put, List.setIfInBounds_toArray, List.set_cons_zero, List.set_cons_succ]
          refine wpAnyK_pure 23 (v := ?_) (i := 5) (fuel := 9) rfl rfl (by kernel_rfl) (by kernel_rfl) (by kernel_rfl) (by decide) (fun _ _ _ h => h) (Or.inl ⟨by rfl, fun w _ => ?_⟩) ?_; rotate_left; (go_simp; with_reducible rfl); simp only [Act.put, List.setIfInBounds_toArray, List.set_cons_zero, List.set_cons_succ]
          refine wpAnyK_pure 24 (v := ?_) (i := 6) (fuel := 8) rfl rfl (by kernel_rfl) (by kernel_rfl) (by kernel_rfl) (by decide) (fun _ _ _ h => h) (Or.inl ⟨by rfl, fun w _ => ?_⟩) ?_; rotate_left; (go_simp; with_reducible rfl); simp only [Act.put, List.setIfInBounds_toArray, List.set_cons_zero, List.set_cons_succ]
          refine wpAnyK_pure 25 (v := ?_) (i := 7) (fuel := 7) rfl rfl (by kernel_rfl) (by kernel_rfl) (by kernel_rfl) (by decide) (fun _ _ _ h => h) (Or.inl ⟨by rfl, fun w _ => ?_⟩) ?_; rotate_left; (go_simp; with_reducible rfl); simp only [Act.put, List.setIfInBounds_toArray, List.set_cons_zero, List.set_cons_succ]
          refine wpAnyK_load 26 (i := 8) (fuel := 6) rfl rfl (by kernel_rfl) (by kernel_rfl) (by kernel_rfl) (.inr (by decide)) (by decide) (fun _ _ _ h => h) rfl (fun w h => ex_loadv h _ _ rfl _ _ rfl) ?_; simp only [Act.put, List.setIfInBounds_toArray, List.set_cons_zero, List.set_cons_succ]
          refine wpAnyK_pure 27 (v := ?_) (i := 9) (fuel := 5) rfl rfl (by kernel_rfl) (by kernel_rfl) (by kernel_rfl) (by decide) (fun _ _ _ h => h) (Or.inl ⟨by rfl, fun w _ => ?_⟩) ?_; rotate_left; (go_simp; with_reducible rfl); simp only [Act.put, List.setIfInBounds_toArray, List.set_cons_zero, List.set_cons_succ]
          refine wpAnyK_pure 28 (v := ?_) (i := 10) (fuel := 4) rfl rfl (by kernel_rfl) (by kernel_rfl) (by kernel_rfl) (by decide) (fun _ _ _ h => h) (Or.inl ⟨by rfl, fun w _ => ?_⟩) ?_; rotate_left; (go_simp; with_reducible rfl); simp only [Act.put, List.setIfInBounds_toArray, List.set_cons_zero, List.set_cons_succ]
          refine wpAnyK_pure 29 (v := ?_) (i := 11) (fuel := 3) rfl rfl (by kernel_rfl) (by kernel_rfl) (by kernel_rfl) (by decide) (fun _ _ _ h => h) (Or.inl ⟨by rfl, fun w _ => ?_⟩) ?_; rotate_left; (go_simp; with_reducible rfl); simp only [Act.put, List.setIfInBounds_toArray, List.set_cons_zero, List.set_cons_succ]
          refine wpAnyK_load 30 (i := 12) (fuel := 2) rfl rfl (by kernel_rfl) (by kernel_rfl) (by kernel_rfl) (.inr (by decide)) (by decide) (fun _ _ _ h => h) rfl (fun w h => ex_load1_at _ _ rfl b (off + k * 2 + 1) rfl (.int .i64 (y.due : Int)) (hck (h.sl (some ⟨b, off, none⟩) wait.length wc) 1 _ rfl)) ?_; simp only [Act.put, List.setIfInBounds_toArray, List.set_cons_zero, List.set_cons_succ]
          refine wpAnyK_pure 31 (v := ?_) (i := 13) (fuel := 1) rfl rfl (by kernel_rfl) (by kernel_rfl) (by kernel_rfl) (by decide) (fun _ _ _ h => h) (Or.inl ⟨by rfl, fun w _ => ?_⟩) ?_; rotate_left; (go_simp; with_reducible rfl); simp only [Act.put, List.setIfInBounds_toArray, List.set_cons_zero, List.set_cons_succ]
          refine wpAnyK_pure 32 (v := ?_) (i := 14) (fuel := 0) rfl rfl (by kernel_rfl) (by kernel_rfl) (by kernel_rfl) (by decide) (fun _ _ _ h => h) (Or.inl ⟨by rfl, fun w _ => ?_⟩) ?_; rotate_left; (go_simp; with_reducible rfl); simp only [Act.put, List.setIfInBounds_toArray, List.set_cons_zero, List.set_cons_succ]
          refine wpAnyK_done (by kernel_rfl) ?_
          go_wp2
          refine ⟨⟨i + 1, (i : Int), by push_cast; rfl, rfl, by omega, Lib.hid (.inr ⟨i, rfl, hf.turn hil (by rw [Hx.out, Hy.out]; exact hlt)⟩), h.to⟩, ?_⟩
          simp only [intOf]
          omega
        · have g1 : ¬ (x.due : Int) < (y.due : Int) := by omega
          refine wp_region_K 15 (fun w' => St _ _ w' _) (by kernel_rfl) h.drew ?_; replace h := h.drew
          refine wpAnyK_pure 18 (v := ?_) (i := 0) (fuel := 14) rfl rfl (by kernel_rfl) (by kernel_rfl) (by kernel_rfl) (by decide) (fun _ _ _ h => h) (Or.inl ⟨by rfl, fun w _ => ?_⟩) ?_; rotate_left; (go_simp; with_reducible rfl); simp only [Act.put, List.setIfInBounds_toArray, List.set_cons_zero, List.set_cons_succ]
          refine wpAnyK_pure 19 (v := ?_) (i := 1) (fuel := 13) rfl rfl (by kernel_rfl) (by kernel_rfl) (by kernel_rfl) (by decide) (fun _ _ _ h => h) (Or.inl ⟨by rfl, fun w _ => ?_⟩) ?_; rotate_left; (go_simp; with_reducible rfl); simp only [Act.put, List.setIfInBounds_toArray, List.set_cons_zero, List.set_cons_succ]
          refine wpAnyK_pure 20 (v := ?_) (i := 2) (fuel := 12) rfl rfl (by kernel_rfl) (by kernel_rfl) (by kernel_rfl) (by decide) (fun _ _ _ h => h) (Or.inl ⟨by rfl, fun w _ => ?_⟩) ?_; rotate_left; (go_simp; with_reducible rfl); simp only [Act.put, List.setIfInBounds_toArray, List.set_cons_zero, List.set_cons_succ]
          refine wpAnyK_pure 21 (v := ?_) (i := 3) (fuel := 11) rfl rfl (by kernel_rfl) (by kernel_rfl) (by kernel_rfl) (by decide) (fun _ _ _ h => h) (Or.inl ⟨by rfl, fun w _ => ?_⟩) ?_; rotate_left; (go_simp; with_reducible rfl); simp only [Act.put, List.setIfInBounds_toArray, List.set_cons_zero, List.set_cons_succ]
          refine wpAnyK_load 22 (i := 4) (fuel := 10) rfl rfl (by kernel_rfl) (by kernel_rfl) (by kernel_rfl) (.inr (by decide)) (by decide) (fun _ _ _ h => h) rfl (fun w h => ex_loadv h _ _ rfl _ _ rfl) ?_; simp only [Act.put, List.setIfInBounds_toArray, List.set_cons_zero, List.set_cons_succ]
          refine wpAnyK_pure 23 (v := ?_) (i := 5) (fuel := 9) rfl rfl (by kernel_rfl) (by kernel_rfl) (by kernel_rfl) (by decide) (fun _ _ _ h => h) (Or.inl ⟨by rfl, fun w _ => ?_⟩) ?_; rotate_left; (go_simp; with_reducible rfl); simp only [Act.put, List.setIfInBounds_toArray, List.set_cons_zero, List.set_cons_succ]
          refine wpAnyK_pure 24 (v := ?_) (i := 6) (fuel := 8) rfl rfl (by kernel_rfl) (by kernel_rfl) (by kernel_rfl) (by decide) (fun _ _ _ h => h) (Or.inl ⟨by rfl, fun w _ => ?_⟩) ?_; rotate_left; (go_simp; with_reducible rfl); simp only [Act.put, List.setIfInBounds_toArray, List.set_cons_zero, List.set_cons_succ]
          refine wpAnyK_pure 25 (v := ?_) (i := 7) (fuel := 7) rfl rfl (by kernel_rfl) (by kernel_rfl) (by kernel_rfl) (by decide) (fun _ _ _ h => h) (Or.inl ⟨by rfl, fun w _ => ?_⟩) ?_; rotate_left; (go_simp; with_reducible rfl); simp only [Act.put, List.setIfInBounds_toArray, List.set_cons_zero, List.set_cons_succ]
          refine wpAnyK_load 26 (i := 8) (fuel := 6) rfl rfl (by kernel_rfl) (by kernel_rfl) (by kernel_rfl) (.inr (by decide)) (by decide) (fun _ _ _ h => h) rfl (fun w h => ex_loadv h _ _ rfl _ _ rfl) ?_; simp only [Act.put, List.setIfInBounds_toArray, List.set_cons_zero, List.set_cons_succ]
          refine wpAnyK_pure 27 (v := ?_) (i := 9) (fuel := 5) rfl rfl (by kernel_rfl) (by kernel_rfl) (by kernel_rfl) (by decide) (fun _ _ _ h => h) (Or.inl ⟨by rfl, fun w _ => ?_⟩) ?_; rotate_left; (go_simp; with_reducible rfl); simp only [Act.put, List.setIfInBounds_toArray, List.set_cons_zero, List.set_cons_succ]
          refine wpAnyK_pure 28 (v := ?_) (i := 10) (fuel := 4) rfl rfl (by kernel_rfl) (by kernel_rfl) (by kernel_rfl) (by decide) (fun _ _ _ h => h) (Or.inl ⟨by rfl, fun w _ => ?_⟩) ?_; rotate_left; (go_simp; with_reducible rfl); simp only [Act.put, List.setIfInBounds_toArray, List.set_cons_zero, List.set_cons_succ]
          refine wpAnyK_pure 29 (v := ?_) (i := 11) (fuel := 3) rfl rfl (by kernel_rfl) (by kernel_rfl) (by kernel_rfl) (by decide) (fun _ _ _ h => h) (Or.inl ⟨by rfl, fun w _ => ?_⟩) ?_; rotate_left; (go_simp; with_reducible rfl); simp only [Act.put, List.setIfInBounds_toArray, List.set_cons_zero, List.set_cons_succ]
          refine wpAnyK_load 30 (i := 12) (fuel := 2) rfl rfl (by kernel_rfl) (by kernel_rfl) (by kernel_rfl) (.inr (by decide)) (by decide) (fun _ _ _ h => h) rfl (fun w h => ex_load1_at _ _ rfl b (off + k * 2 + 1) rfl (.int .i64 (y.due : Int)) (hck (h.sl (some ⟨b, off, none⟩) wait.length wc) 1 _ rfl)) ?_; simp only [Act.put, List.setIfInBounds_toArray, List.set_cons_zero, List.set_cons_succ]
          refine wpAnyK_pure 31 (v := ?_) (i := 13) (fuel := 1) rfl rfl (by kernel_rfl) (by kernel_rfl) (by kernel_rfl) (by decide) (fun _ _ _ h => h) (Or.inl ⟨by rfl, fun w _ => ?_⟩) ?_; rotate_left; (go_simp; with_reducible rfl); simp only [Act.put, List.setIfInBounds_toArray, List.set_cons_zero, List.set_cons_succ]
          refine wpAnyK_pure 32 (v := ?_) (i := 14) (fuel := 0) rfl rfl (by kernel_rfl) (by kernel_rfl) (by kernel_rfl) (by decide) (fun _ _ _ h => h) (Or.inl ⟨by rfl, fun w _ => ?_⟩) ?_; rotate_left; (go_simp; with_reducible rfl); simp only [Act.put, List.setIfInBounds_toArray, List.set_cons_zero, List.set_cons_succ]
          refine wpAnyK_done (by kernel_rfl) ?_
          go_wp2
          refine ⟨⟨i + 1, (k : Int), by push_cast; rfl, rfl, by omega, Lib.hid (.inr ⟨k, rfl, hf.keep hil (by rw [Hx.out, Hy.out]; omega)⟩), h.to⟩, ?_⟩
          simp only [intOf]
          omega
    · have hin : i = wait.length := by omega
      subst hin
      rcases Hv.out with ⟨h1, _⟩ | ⟨k, rfl, hf⟩
      · omega
      have hk1 := hf.lt
      obtain ⟨y, hy⟩ : ∃ y, wait[k] = y := ⟨_, rfl⟩
      have Hy := Lib.hid hy
      have hck : ∀ {w}, Sl w (some ⟨b, off, none⟩) wait.length wc 2 (wait.flatMap mgr) → Cells w b (off + k * 2) (mgr y) := fun hs => by rw [← hy]; exact hel hs k (by omega)
      have t1 : ((k : Int)).toNat = k := by omega
      have f2 : ¬ (k : Int) < 0 := by omega
      have f3 : (k : Int) < (wait.length : Int) := by omega
      have f4 : k < wait.length := by omega
      have f5 : (0 : Int) ≤ (k : Int) := by omega
      have f6 : (k : Int) ≤ (wc : Int) := by omega
      have f7 : k ≤ wc := by omega
      have f8 : (k : Int) + 1 ≤ (wait.length : Int) := by omega
      have f9 : k + 1 ≤ wait.length := by omega
      have f10 : (wait.length : Int) ≤ (wc : Int) := by omega
      have t2 : ((k : Int) + 1).toNat = k + 1 := by omega
      have w1 : IntKind.i64.wrap ((k : Int) + 1) = (k : Int) + 1 := by rw [IntKind.wrap_i64]; omega
      have f11 : (0 : Int) ≤ (k : Int) + 1 := by omega
      clear hy
      have Hf := Lib.hid hf
      clear hf
      have Hfl := Lib.hid (show (wait.flatMap mgr).take (k * 2) ++ (wait.flatMap mgr).drop ((k + 1) * 2) = (wait.take k ++ wait.drop (k + 1)).flatMap mgr by rw [(flat_take3 (by omega)).1, (flat_take3 f9).2, List.flatMap_append])
      have Hln := Lib.hid (show (wait.take k ++ wait.drop (k + 1)).length = k + (wait.length - (k + 1)) by simp only [List.length_append, List.length_take, List.length_drop]; omega)
      have g1 : ¬ (k : Int) + 1 < (k : Int) := by omega
      have g2 : ¬ (wc : Int) < (k : Int) := by omega
      by_cases hc : wc = k + 1
      · have hr0 : wait.length - (k + 1) = 0 := by omega
        have e1 : (wait.length : Int) - ((k : Int) + 1) = 0 := by omega
        have htl : ∀ {w}, Sl w (some ⟨b, off, none⟩) wait.length wc 2 (wait.flatMap mgr) → Sl w (some ⟨b, off, none⟩) (wait.length - (k + 1)) (wc - (k + 1)) 2 ((wait.flatMap mgr).drop ((k + 1) * 2)) := fun hs => by have := hs.drop f9; rwa [if_pos hc] at this
        go_upto_region 11 with (first
          | (refine wl_at 44 rfl ?_; refine wl_reads rfl (ex_load1_at _ _ rfl b (off + k * 2) rfl (.slice y.A y.body.length y.c) (by simpa using hck (h.sl (some ⟨b, off, none⟩) wait.length wc) 0 _ rfl)) ?_)
          | (refine wl_reads rfl (ex_loadv h _ _ rfl _ _ rfl) ?_))
        refine wp_region_K 15 (fun w' => St _ _ w' _) (by kernel_rfl) h.drew ?_; replace h := h.drew
        refine wpAnyK_pure 45 (v := ?_) (i := 0) (fuel := 18) rfl rfl (by kernel_rfl) (by kernel_rfl) (by kernel_rfl) (by decide) (fun _ _ _ h => h) (Or.inl ⟨by rfl, fun w _ => ?_⟩) ?_; rotate_left; (go_simp; with_reducible rfl); simp only [Act.put, List.setIfInBounds_toArray, List.set_cons_zero, List.set_cons_succ]
        refine wpAnyK_pure 46 (v := ?_) (i := 1) (fuel := 17) rfl rfl (by kernel_rfl) (by kernel_rfl) (by kernel_rfl) (by decide) (fun _ _ _ h => h) (Or.inl ⟨by rfl, fun w _ => ?_⟩) ?_; rotate_left; (go_simp; with_reducible rfl); simp only [Act.put, List.setIfInBounds_toArray, List.set_cons_zero, List.set_cons_succ]
        refine wpAnyK_pure 47 (v := ?_) (i := 2) (fuel := 16) rfl rfl (by kernel_rfl) (by kernel_rfl) (by kernel_rfl) (by decide) (fun _ _ _ h => h) (Or.inl ⟨by rfl, fun w _ => ?_⟩) ?_; rotate_left; (go_simp; with_reducible rfl); simp only [Act.put, List.setIfInBounds_toArray, List.set_cons_zero, List.set_cons_succ]
        refine wpAnyK_pure 48 (v := ?_) (i := 3) (fuel := 15) rfl rfl (by kernel_rfl) (by kernel_rfl) (by kernel_rfl) (by decide) (fun _ _ _ h => h) (Or.inl ⟨by rfl, fun w _ => ?_⟩) ?_; rotate_left; (go_simp; with_reducible rfl); simp only [Act.put, List.setIfInBounds_toArray, List.set_cons_zero, List.set_cons_succ]
        refine wpAnyK_load 49 (i := 4) (fuel := 14) rfl rfl (by kernel_rfl) (by kernel_rfl) (by kernel_rfl) (.inl (by kernel_rfl)) (by decide) (fun _ _ _ h => h) rfl (fun w h => ex_loadv h _ _ rfl _ _ rfl) ?_; simp only [Act.put, List.setIfInBounds_toArray, List.set_cons_zero, List.set_cons_succ]
        refine wpAnyK_pure 50 (v := ?_) (i := 5) (fuel := 13) rfl rfl (by kernel_rfl) (by kernel_rfl) (by kernel_rfl) (by decide) (fun _ _ _ h => h) (Or.inl ⟨by rfl, fun w _ => ?_⟩) ?_; rotate_left; (go_simp; with_reducible rfl); simp only [Act.put, List.setIfInBounds_toArray, List.set_cons_zero, List.set_cons_succ]
        refine wpAnyK_pure 51 (v := ?_) (i := 6) (fuel := 12) rfl rfl (by kernel_rfl) (by kernel_rfl) (by kernel_rfl) (by decide) (fun _ _ _ h => h) (Or.inl ⟨by rfl, fun w _ => ?_⟩) ?_; rotate_left; (go_simp; with_reducible rfl); simp only [Act.put, List.setIfInBounds_toArray, List.set_cons_zero, List.set_cons_succ]
        refine wpAnyK_pure 52 (v := (.slice (some ⟨b, off, none⟩) k k)) (i := 7) (fuel := 11) rfl rfl (by kernel_rfl) (by kernel_rfl) (by kernel_rfl) (by decide) (fun _ _ _ h => h) (Or.inl ⟨by rfl, fun w _ => (by go_simp)⟩) ?_; simp only [Act.put, List.setIfInBounds_toArray, List.set_cons_zero, List.set_cons_succ]
        refine wpAnyK_pure 53 (v := ?_) (i := 8) (fuel := 10) rfl rfl (by kernel_rfl) (by kernel_rfl) (by kernel_rfl) (by decide) (fun _ _ _ h => h) (Or.inl ⟨by rfl, fun w _ => ?_⟩) ?_; rotate_left; (go_simp; with_reducible rfl); simp only [Act.put, List.setIfInBounds_toArray, List.set_cons_zero, List.set_cons_succ]
        refine wpAnyK_pure 54 (v := ?_) (i := 9) (fuel := 9) rfl rfl (by kernel_rfl) (by kernel_rfl) (by kernel_rfl) (by decide) (fun _ _ _ h => h) (Or.inl ⟨by rfl, fun w _ => ?_⟩) ?_; rotate_left; (go_simp; with_reducible rfl); simp only [Act.put, List.setIfInBounds_toArray, List.set_cons_zero, List.set_cons_succ]
        refine wpAnyK_pure 55 (v := ?_) (i := 10) (fuel := 8) rfl rfl (by kernel_rfl) (by kernel_rfl) (by kernel_rfl) (by decide) (fun _ _ _ h => h) (Or.inl ⟨by rfl, fun w _ => ?_⟩) ?_; rotate_left; (go_simp; with_reducible rfl); simp only [Act.put, List.setIfInBounds_toArray, List.set_cons_zero, List.set_cons_succ]
        refine wpAnyK_load 56 (i := 11) (fuel := 7) rfl rfl (by kernel_rfl) (by kernel_rfl) (by kernel_rfl) (.inl (by kernel_rfl)) (by decide) (fun _ _ _ h => h) rfl (fun w h => ex_loadv h _ _ rfl _ _ rfl) ?_; simp only [Act.put, List.setIfInBounds_toArray, List.set_cons_zero, List.set_cons_succ]
        refine wpAnyK_pure 57 (v := ?_) (i := 12) (fuel := 6) rfl rfl (by kernel_rfl) (by kernel_rfl) (by kernel_rfl) (by decide) (fun _ _ _ h => h) (Or.inl ⟨by rfl, fun w _ => ?_⟩) ?_; rotate_left; (go_simp; with_reducible rfl); simp only [Act.put, List.setIfInBounds_toArray, List.set_cons_zero, List.set_cons_succ]
        refine wpAnyK_pure 58 (v := ?_) (i := 13) (fuel := 5) rfl rfl (by kernel_rfl) (by kernel_rfl) (by kernel_rfl) (by decide) (fun _ _ _ h => h) (Or.inl ⟨by rfl, fun w _ => ?_⟩) ?_; rotate_left; (go_simp; with_reducible rfl); simp only [Act.put, List.setIfInBounds_toArray, List.set_cons_zero, List.set_cons_succ]
        refine wpAnyK_pure 59 (v := (.slice (some ⟨b, off, none⟩) (wait.length - (k + 1)) (wc - (k + 1)))) (i := 14) (fuel := 4) rfl rfl (by kernel_rfl) (by kernel_rfl) (by kernel_rfl) (by decide) (fun _ _ _ h => h) (Or.inl ⟨by rfl, fun w _ => (by go_simp)⟩) ?_; simp only [Act.put, List.setIfInBounds_toArray, List.set_cons_zero, List.set_cons_succ]
        refine wpAnyK_one (i := 15) (fuel := 3) rfl (by kernel_rfl) rfl (fun K hK => ?_)
        refine op_runs (some 60) rfl (ex_append (h.capRow (some ⟨b, off, none⟩) k (by omega)) _ _ _ rfl (some ⟨b, off, none⟩) rfl (some ⟨b, off, none⟩) (wait.length - (k + 1)) (wc - (k + 1)) rfl (htl (h.sl (some ⟨b, off, none⟩) wait.length wc)) (fun u hu => mgrs_one _ u (List.mem_of_mem_drop hu)) (by simp [maxLen]; omega) (by omega)) ?_; clear h; rintro _ w ⟨A2, c2, rfl, h⟩; rw [Hfl.out] at h; refine hK.out _ _ (SJ.past (by kernel_rfl)) ?_; clear hK K
        try simp only [Act.put, List.setIfInBounds_toArray, List.set_cons_zero, List.set_cons_succ]
        refine wpAnyK_pure 61 (v := ?_) (i := 16) (fuel := 2) rfl rfl (by kernel_rfl) (by kernel_rfl) (by kernel_rfl) (by decide) (fun _ _ _ h => h) (Or.inl ⟨by rfl, fun w _ => ?_⟩) ?_; rotate_left; (go_simp; with_reducible rfl); simp only [Act.put, List.setIfInBounds_toArray, List.set_cons_zero, List.set_cons_succ]
        refine wpAnyK_pure 62 (v := ?_) (i := 17) (fuel := 1) rfl rfl (by kernel_rfl) (by kernel_rfl) (by kernel_rfl) (by decide) (fun _ _ _ h => h) (Or.inl ⟨by rfl, fun w _ => ?_⟩) ?_; rotate_left; (go_simp; with_reducible rfl); simp only [Act.put, List.setIfInBounds_toArray, List.set_cons_zero, List.set_cons_succ]
        refine wpAnyK_one (i := 18) (fuel := 0) rfl (by kernel_rfl) rfl (fun K hK => ?_)
        refine op_runs none rfl (ex_store1s h _ _ _ rfl g 2 rfl _ _ _ rfl) ?_; clear h; rintro _ w ⟨rfl, h⟩; refine hK.out _ _ (SJ.past (by kernel_rfl)) ?_; clear hK K
        try simp only [Act.put, List.setIfInBounds_toArray, List.set_cons_zero, List.set_cons_succ]
        refine wpAnyK_done (by kernel_rfl) ?_
        go_wp2; go_ret2; have hy := Hy.out; subst hy; refine ⟨k, ⟨fA, fc, A2, c2⟩, Hf.out, rfl, ?_⟩; exact rcv_end Hln.out (by omega) h.to
      · have htl : ∀ {w}, Sl w (some ⟨b, off, none⟩) wait.length wc 2 (wait.flatMap mgr) → Sl w (some ⟨b, off + (k + 1) * 2, none⟩) (wait.length - (k + 1)) (wc - (k + 1)) 2 ((wait.flatMap mgr).drop ((k + 1) * 2)) := fun hs => by have := hs.drop f9; rwa [if_neg hc, Option.map_some, add_none] at this
        go_upto_region 11 with (first
          | (refine wl_at 44 rfl ?_; refine wl_reads rfl (ex_load1_at _ _ rfl b (off + k * 2) rfl (.slice y.A y.body.length y.c) (by simpa using hck (h.sl (some ⟨b, off, none⟩) wait.length wc) 0 _ rfl)) ?_)
          | (refine wl_reads rfl (ex_loadv h _ _ rfl _ _ rfl) ?_))
        refine wp_region_K 15 (fun w' => St _ _ w' _) (by kernel_rfl) h.drew ?_; replace h := h.drew
        refine wpAnyK_pure 45 (v := ?_) (i := 0) (fuel := 18) rfl rfl (by kernel_rfl) (by kernel_rfl) (by kernel_rfl) (by decide) (fun _ _ _ h => h) (Or.inl ⟨by rfl, fun w _ => ?_⟩) ?_; rotate_left; (go_simp; with_reducible rfl); simp only [Act.put, List.setIfInBounds_toArray, List.set_cons_zero, List.set_cons_succ]
        refine wpAnyK_pure 46 (v := ?_) (i := 1) (fuel := 17) rfl rfl (by kernel_rfl) (by kernel_rfl) (by kernel_rfl) (by decide) (fun _ _ _ h => h) (Or.inl ⟨by rfl, fun w _ => ?_⟩) ?_; rotate_left; (go_simp; with_reducible rfl); simp only [Act.put, List.setIfInBounds_toArray, List.set_cons_zero, List.set_cons_succ]
        refine wpAnyK_pure 47 (v := ?_) (i := 2) (fuel := 16) rfl rfl (by kernel_rfl) (by kernel_rfl) (by kernel_rfl) (by decide) (fun _ _ _ h => h) (Or.inl ⟨by rfl, fun w _ => ?_⟩) ?_; rotate_left; (go_simp; with_reducible rfl); simp only [Act.put, List.setIfInBounds_toArray, List.set_cons_zero, List.set_cons_succ]
        refine wpAnyK_pure 48 (v := ?_) (i := 3) (fuel := 15) rfl rfl (by kernel_rfl) (by kernel_rfl) (by kernel_rfl) (by decide) (fun _ _ _ h => h) (Or.inl ⟨by rfl, fun w _ => ?_⟩) ?_; rotate_left; (go_simp; with_reducible rfl); simp only [Act.put, List.setIfInBounds_toArray, List.set_cons_zero, List.set_cons_succ]
        refine wpAnyK_load 49 (i := 4) (fuel := 14) rfl rfl (by kernel_rfl) (by kernel_rfl) (by kernel_rfl) (.inl (by kernel_rfl)) (by decide) (fun _ _ _ h => h) rfl (fun w h => ex_loadv h _ _ rfl _ _ rfl) ?_; simp only [Act.put, List.setIfInBounds_toArray, List.set_cons_zero, List.set_cons_succ]
        refine wpAnyK_pure 50 (v := ?_) (i := 5) (fuel := 13) rfl rfl (by kernel_rfl) (by kernel_rfl) (by kernel_rfl) (by decide) (fun _ _ _ h => h) (Or.inl ⟨by rfl, fun w _ => ?_⟩) ?_; rotate_left; (go_simp; with_reducible rfl); simp only [Act.put, List.setIfInBounds_toArray, List.set_cons_zero, List.set_cons_succ]
        refine wpAnyK_pure 51 (v := ?_) (i := 6) (fuel := 12) rfl rfl (by kernel_rfl) (by kernel_rfl) (by kernel_rfl) (by decide) (fun _ _ _ h => h) (Or.inl ⟨by rfl, fun w _ => ?_⟩) ?_; rotate_left; (go_simp; with_reducible rfl); simp only [Act.put, List.setIfInBounds_toArray, List.set_cons_zero, List.set_cons_succ]
        refine wpAnyK_pure 52 (v := (.slice (some ⟨b, off, none⟩) k k)) (i := 7) (fuel := 11) rfl rfl (by kernel_rfl) (by kernel_rfl) (by kernel_rfl) (by decide) (fun _ _ _ h => h) (Or.inl ⟨by rfl, fun w _ => (by go_simp)⟩) ?_; simp only [Act.put, List.setIfInBounds_toArray, List.set_cons_zero, List.set_cons_succ]
        refine wpAnyK_pure 53 (v := ?_) (i := 8) (fuel := 10) rfl rfl (by kernel_rfl) (by kernel_rfl) (by kernel_rfl) (by decide) (fun _ _ _ h => h) (Or.inl ⟨by rfl, fun w _ => ?_⟩) ?_; rotate_left; (go_simp; with_reducible rfl); simp only [Act.put, List.setIfInBounds_toArray, List.set_cons_zero, List.set_cons_succ]
        refine wpAnyK_pure 54 (v := ?_) (i := 9) (fuel := 9) rfl rfl (by kernel_rfl) (by kernel_rfl) (by kernel_rfl) (by decide) (fun _ _ _ h => h) (Or.inl ⟨by rfl, fun w _ => ?_⟩) ?_; rotate_left; (go_simp; with_reducible rfl); simp only [Act.put, List.setIfInBounds_toArray, List.set_cons_zero, List.set_cons_succ]
        refine wpAnyK_pure 55 (v := ?_) (i := 10) (fuel := 8) rfl rfl (by kernel_rfl) (by kernel_rfl) (by kernel_rfl) (by decide) (fun _ _ _ h => h) (Or.inl ⟨by rfl, fun w _ => ?_⟩) ?_; rotate_left; (go_simp; with_reducible rfl); simp only [Act.put, List.setIfInBounds_toArray, List.set_cons_zero, List.set_cons_succ]
        refine wpAnyK_load 56 (i := 11) (fuel := 7) rfl rfl (by kernel_rfl) (by kernel_rfl) (by kernel_rfl) (.inl (by kernel_rfl)) (by decide) (fun _ _ _ h => h) rfl (fun w h => ex_loadv h _ _ rfl _ _ rfl) ?_; simp only [Act.put, List.setIfInBounds_toArray, List.set_cons_zero, List.set_cons_succ]
        refine wpAnyK_pure 57 (v := ?_) (i := 12) (fuel := 6) rfl rfl (by kernel_rfl) (by kernel_rfl) (by kernel_rfl) (by decide) (fun _ _ _ h => h) (Or.inl ⟨by rfl, fun w _ => ?_⟩) ?_; rotate_left; (go_simp; with_reducible rfl); simp only [Act.put, List.setIfInBounds_toArray, List.set_cons_zero, List.set_cons_succ]
        refine wpAnyK_pure 58 (v := ?_) (i := 13) (fuel := 5) rfl rfl (by kernel_rfl) (by kernel_rfl) (by kernel_rfl) (by decide) (fun _ _ _ h => h) (Or.inl ⟨by rfl, fun w _ => ?_⟩) ?_; rotate_left; (go_simp; with_reducible rfl); simp only [Act.put, List.setIfInBounds_toArray, List.set_cons_zero, List.set_cons_succ]
        refine wpAnyK_pure 59 (v := (.slice (some ⟨b, off + (k + 1) * 2, none⟩) (wait.length - (k + 1)) (wc - (k + 1)))) (i := 14) (fuel := 4) rfl rfl (by kernel_rfl) (by kernel_rfl) (by kernel_rfl) (by decide) (fun _ _ _ h => h) (Or.inl ⟨by rfl, fun w _ => (by go_simp)⟩) ?_; simp only [Act.put, List.setIfInBounds_toArray, List.set_cons_zero, List.set_cons_succ]
        refine wpAnyK_one (i := 15) (fuel := 3) rfl (by kernel_rfl) rfl (fun K hK => ?_)
        refine op_runs (some 60) rfl (ex_append (h.capRow (some ⟨b, off, none⟩) k (by omega)) _ _ _ rfl (some ⟨b, off, none⟩) rfl (some ⟨b, off + (k + 1) * 2, none⟩) (wait.length - (k + 1)) (wc - (k + 1)) rfl (htl (h.sl (some ⟨b, off, none⟩) wait.length wc)) (fun u hu => mgrs_one _ u (List.mem_of_mem_drop hu)) (by simp [maxLen]; omega) (by omega)) ?_; clear h; rintro _ w ⟨A2, c2, rfl, h⟩; rw [Hfl.out] at h; refine hK.out _ _ (SJ.past (by kernel_rfl)) ?_; clear hK K
        try simp only [Act.put, List.setIfInBounds_toArray, List.set_cons_zero, List.set_cons_succ]
        refine wpAnyK_pure 61 (v := ?_) (i := 16) (fuel := 2) rfl rfl (by kernel_rfl) (by kernel_rfl) (by kernel_rfl) (by decide) (fun _ _ _ h => h) (Or.inl ⟨by rfl, fun w _ => ?_⟩) ?_; rotate_left; (go_simp; with_reducible rfl); simp only [Act.put, List.setIfInBounds_toArray, List.set_cons_zero, List.set_cons_succ]
        refine wpAnyK_pure 62 (v := ?_) (i := 17) (fuel := 1) rfl rfl (by kernel_rfl) (by kernel_rfl) (by kernel_rfl) (by decide) (fun _ _ _ h => h) (Or.inl ⟨by rfl, fun w _ => ?_⟩) ?_; rotate_left; (go_simp; with_reducible rfl); simp only [Act.put, List.setIfInBounds_toArray, List.set_cons_zero, List.set_cons_succ]
        refine wpAnyK_one (i := 18) (fuel := 0) rfl (by kernel_rfl) rfl (fun K hK => ?_)
        refine op_runs none rfl (ex_store1s h _ _ _ rfl g 2 rfl _ _ _ rfl) ?_; clear h; rintro _ w ⟨rfl, h⟩; refine hK.out _ _ (SJ.past (by kernel_rfl)) ?_; clear hK K
        try simp only [Act.put, List.setIfInBounds_toArray, List.set_cons_zero, List.set_cons_succ]
        refine wpAnyK_done (by kernel_rfl) ?_
        go_wp2; go_ret2; have hy := Hy.out; subst hy; refine ⟨k, ⟨fA, fc, A2, c2⟩, Hf.out, rfl, ?_⟩; exact rcv_end Hln.out (by omega) h.to
end Go.Proofs.Ythnjfpjojmcccaa
