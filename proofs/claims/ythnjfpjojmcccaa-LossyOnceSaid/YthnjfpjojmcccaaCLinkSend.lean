/- A message sent. -/
import Derived.Test.YthnjfpjojmcccaaCLinkBack
import Derived.Test.YthnjfpjojmcccaaCB2
namespace Go.Proofs.Ythnjfpjojmcccaa
open Go.RowKit Go.Shelf
set_option linter.unusedVariables false
set_option linter.unusedSimpArgs false

def clampT (t : Int) : Nat := (min (max t 0) 3).toNat
def clampD (d : Int) : Nat := (min (max d 0) 1000).toNat
/-- The place for what is due then. -/
structure PlaceFor (l : List Mg) (i due : Nat) : Prop where
  le : i ≤ l.length
  gt : ∀ j (hj : j < l.length), i ≤ j → due < l[j].due
  ge : ∀ h : 0 < i, (l[i - 1]'(by omega)).due ≤ due
theorem backL_at {l : List Mg} {pre : List (Nat × Mg)} {x : Nat × Mg} (h : pre ++ [x] <+: backL l) : ∃ hl : pre.length < l.length, x.1 = l.length - (pre.length + 1) ∧ x.2 = l[l.length - (pre.length + 1)]'(by omega) := by
  have hle := h.length_le
  rw [backL_length] at hle
  simp only [List.length_append, List.length_cons, List.length_nil] at hle
  have hl : pre.length < l.length := by omega
  have e := h.getElem (i := pre.length) (by simp)
  rw [List.getElem_concat_length rfl] at e
  have e2 := backL_get l (l.length - (pre.length + 1)) (by omega)
  simp only [show l.length - (l.length - (pre.length + 1) + 1) = pre.length by omega] at e2
  rw [e2] at e
  exact ⟨hl, by rw [e], by rw [e]⟩
theorem place_gt {l : List Mg} {pre : List (Nat × Mg)} {due : Nat} (hp : pre <+: backL l) (hgt : ∀ p ∈ pre, due < p.2.due) (j : Nat) (hj : j < l.length) (hi : l.length - pre.length ≤ j) : due < l[j].due := by
  have hle := hp.length_le
  rw [backL_length] at hle
  have e := backL_get l j hj
  have hk : l.length - (j + 1) < pre.length := by omega
  have e2 := hp.getElem (i := l.length - (j + 1)) hk
  have := hgt _ (List.getElem_mem hk)
  rw [e2, e] at this
  exact this
theorem place_done {l : List Mg} {due : Nat} (hgt : ∀ p ∈ backL l, due < p.2.due) : PlaceFor l 0 due :=
  ⟨Nat.zero_le _, fun j hj _ => place_gt (List.prefix_refl _) hgt j hj (by rw [backL_length]; omega), fun h => absurd h (by omega)⟩
theorem place_stop {l : List Mg} {pre : List (Nat × Mg)} {x : Nat × Mg} {due : Nat} (hp : pre ++ [x] <+: backL l) (hgt : ∀ p ∈ pre, due < p.2.due) (hx : x.2.due ≤ due) : PlaceFor l (l.length - pre.length) due := by
  obtain ⟨hl, _, e2⟩ := backL_at hp
  refine ⟨by omega, fun j hj hi => place_gt ((List.prefix_append pre [x]).trans hp) hgt j hj hi, fun h => ?_⟩
  rw [e2] at hx
  simpa only [show l.length - pre.length - 1 = l.length - (pre.length + 1) by omega] using hx
/-- The rounds: all that was told is due later. -/
def SBackM (ga due : Nat) (l : List Mg) (F : List Ent) (pre : List (Nat × Mg)) (L : List Ent) : Prop := pre <+: backL l ∧ (∀ p ∈ pre, due < p.2.due) ∧ L = eBlk ga 3 [.int .i64 ((l.length - pre.length : Nat) : Int)] :: F
def SBackMx (ga due : Nat) (l : List Mg) (F : List Ent) (c : Code) (pre : List (Nat × Mg)) (L : List Ent) : Prop := c = .exit 0 ∧ ∃ i, PlaceFor l i due ∧ L = eBlk ga 3 [.int .i64 (i : Int)] :: F
def SBackAx (ga due : Nat) (l : List Mg) (F : List Ent) (t : Array Value) (pre : List (Nat × Mg)) (x : Nat × Mg) (a' : Act) (L : List Ent) : Prop := ∃ g8, a' = { tmps := (((t.setIfInBounds 42 (.int .i64 (x.1 : Int))).setIfInBounds 43 (.agg (mgc x.2).toArray)).setIfInBounds 7 (.int .i64 (x.1 : Int))).setIfInBounds 8 (.pointer (some ⟨g8, 0, none⟩)), defers := [] } ∧ pre <+: backL l ∧ (∀ p ∈ pre, due < p.2.due) ∧ L = eBlk g8 107 (mgc x.2) :: eBlk ga 3 [.int .i64 ((l.length - pre.length : Nat) : Int)] :: F
/-- One more at the place. -/
theorem ins_at {l : List Mg} {i j : Nat} {x : Mg} (hi : i ≤ l.length) : ((l.take i ++ List.replicate j x ++ l.drop i).flatMap mgc).take (i * 2) ++ mgc x ++ ((l.take i ++ List.replicate j x ++ l.drop i).flatMap mgc).drop (i * 2) = (l.take i ++ List.replicate (j + 1) x ++ l.drop i).flatMap mgc := by
  have h1 : ((l.take i).flatMap mgc).length = i * 2 := by rw [length_flatMap mgc_length, List.length_take, Nat.min_eq_left hi]
  rw [List.append_assoc (l.take i), List.flatMap_append, List.take_left' h1, List.drop_left' h1]
  simp only [List.flatMap_append, List.replicate_succ, List.cons_append, List.flatMap_cons, List.append_assoc]
theorem ins_len {l : List Mg} {i j : Nat} {x : Mg} (hi : i ≤ l.length) : (l.take i ++ List.replicate j x ++ l.drop i).length = l.length + j := by
  simp only [List.length_append, List.length_take, List.length_replicate, List.length_drop]
  omega
attribute [local go_sem] Oper.semAt_some
set_option maxRecDepth 100000 in
set_option maxHeartbeats 2000000 in
theorem lk_send {S : Nat → Prop} {w0 w : World} {L F : List Ent} {g : Nat} {k : LkAt} {s : Lk} {B : Option Addr} {m d : Nat} {b : List UInt8} (h : St S w0 w L) [sl : SlotL L g k s F] [ka : HasSl F B m d 1 (u8s b)] (hm : m ≤ 1000000) (hfl : s.fates.length ≤ 1000000) (hse : s.sent ≤ 1000000) (hwl : s.wait.length ≤ 900000) :
    Calls Try.prog 26 #[.pointer (some ⟨g, 0, none⟩), .slice B m d] w fun e w' => e = .returned (.tuple #[]) ∧ ∃ k' i x, PlaceFor s.wait i x.due ∧ x.body = b ∧ x.due = s.sent + clampD (fateM s).2 ∧ St S w0 w' (eLk g k' ⟨s.fates, s.sent + 1, s.wait.take i ++ List.replicate (clampT (fateM s).1) x ++ s.wait.drop i⟩ :: F) := by
  obtain ⟨fates, sent, wait⟩ := s
  obtain ⟨fA, fc, wA, wc⟩ := k
  have hw := h
  have hmb := (h.perm sl.perm).to (L' := F)
  have hml := Lib.hid ((hmb.sl B m d).n_eq)
  clear hmb
  replace h := h.lkOpen g
  simp only at h hfl hse hwl ⊢
  obtain ⟨f, hf⟩ : ∃ f, fateM ⟨fates, sent, wait⟩ = f := ⟨_, rfl⟩
  have Hf := Lib.hid hf
  rw [hf]
  obtain ⟨D, hD⟩ : ∃ D, clampD f.2 = D := ⟨_, rfl⟩
  obtain ⟨N, hN⟩ : ∃ N, clampT f.1 = N := ⟨_, rfl⟩
  rw [hD, hN]
  have hDi : min (max f.2 0) 1000 = (D : Int) := by rw [← hD]; unfold clampD; omega
  have hNi : min (max f.1 0) 3 = (N : Int) := by rw [← hN]; unfold clampT; omega
  have hD1 : D ≤ 1000 := by omega
  have hN1 : N ≤ 3 := by omega
  obtain ⟨E1, hE1⟩ : ∃ E1 : Int, (if f.2 < 0 then 0 else f.2) = E1 := ⟨_, rfl⟩
  obtain ⟨E3, hE3⟩ : ∃ E3 : Int, (if f.1 < 0 then 0 else f.1) = E3 := ⟨_, rfl⟩
  have hE2 : (if 1000 < E1 then 1000 else E1) = (D : Int) := by rw [← hE1]; split <;> split at * <;> omega
  have hE4 : (if 3 < E3 then 3 else E3) = (N : Int) := by rw [← hE3]; split <;> split at * <;> omega
  clear hf hD hN hDi hNi
  have hra : Row (fac f) 2 := c_api_Fate.row _ _
  have t1 := True.intro
  refine callsIn_wide.1 (callsIn_of_wp_marks (F := Fence.wide) (n := 3) Try.func26 rfl trivial ?_ rfl)
  simp only [Try.ntmps26, List.size_toArray, List.length_cons, List.length_nil, Nat.reduceAdd, Nat.reduceSub, Array.replicate_succ, Array.replicate_zero, List.push_toArray, List.append_toArray, List.nil_append, List.cons_append]
  refine wpIn_wide.2 ?_
  go_wp2_with (first | (refine wl_reads rfl (ex_loadv h _ _ rfl _ _ rfl) ?_))
  go_step3
  go_upto_region 2 with (first
    | (clear t1; go_at_call 44; refine (lk_fate (g := g) hw hfl hse).mono ?_; rw [Hf.out]; clear h hw; rintro e w ⟨rfl, h⟩; replace h := h.lkOpen g)
    | (refine wl_runs rfl (ex_alloc h 102 rfl) ?_; clear h; rintro _ w ⟨gf, rfl, h⟩)
    | (refine wl_runs rfl (ex_store h _ _ _ rfl _ _ rfl (fac f) rfl) ?_; clear h; rintro _ w ⟨rfl, h⟩; try dsimp only [Act.put])
    | (refine wl_reads rfl (ex_loadv h _ _ rfl _ _ rfl) ?_))
  have hsm : IntKind.i64.wrap ((sent : Int) + (D : Int)) = ((sent + D : Nat) : Int) := by rw [IntKind.wrap_i64]; omega
  have hsc : ((sent + D : Nat) : Int) = (sent : Int) + (D : Int) := by omega
  refine wp_nopanic ?_
  refine wp_region_K 13 (fun w' => St _ _ w' _) (by kernel_rfl) h.drew ?_; replace h := h.drew
  refine wpAnyK_pure 20 (v := ?_) (i := 0) (fuel := 13) rfl rfl (by kernel_rfl) (by kernel_rfl) (by kernel_rfl) (by decide) (fun _ _ _ h => h) (Or.inl ⟨by rfl, fun w _ => ?_⟩) ?_; rotate_left; (go_simp; with_reducible rfl); simp only [Act.put, List.setIfInBounds_toArray, List.set_cons_zero, List.set_cons_succ]
  refine wpAnyK_pure 22 (v := ?_) (i := 2) (fuel := 12) rfl rfl (by kernel_rfl) (by kernel_rfl) (by kernel_rfl) (by decide) (fun _ _ _ h => h) (Or.inl ⟨by rfl, fun w _ => ?_⟩) ?_; rotate_left; (go_simp; with_reducible rfl); simp only [Act.put, List.setIfInBounds_toArray, List.set_cons_zero, List.set_cons_succ]
  refine wpAnyK_pure 23 (v := ?_) (i := 3) (fuel := 11) rfl rfl (by kernel_rfl) (by kernel_rfl) (by kernel_rfl) (by decide) (fun _ _ _ h => h) (Or.inl ⟨by rfl, fun w _ => ?_⟩) ?_; rotate_left; (go_simp; with_reducible rfl); simp only [Act.put, List.setIfInBounds_toArray, List.set_cons_zero, List.set_cons_succ]
  refine wpAnyK_pure 24 (v := ?_) (i := 4) (fuel := 10) rfl rfl (by kernel_rfl) (by kernel_rfl) (by kernel_rfl) (by decide) (fun _ _ _ h => h) (Or.inl ⟨by rfl, fun w _ => ?_⟩) ?_; rotate_left; (go_simp; with_reducible rfl); simp only [Act.put, List.setIfInBounds_toArray, List.set_cons_zero, List.set_cons_succ]
  refine wpAnyK_load 25 (i := 5) (fuel := 9) rfl rfl (by kernel_rfl) (by kernel_rfl) (by kernel_rfl) (.inl (by kernel_rfl)) (by decide) (fun _ _ _ h => h) rfl (fun w h => ex_loadv h _ _ rfl _ _ rfl) ?_; simp only [Act.put, List.setIfInBounds_toArray, List.set_cons_zero, List.set_cons_succ]
  refine wpAnyK_pure 26 (v := ?_) (i := 6) (fuel := 8) rfl rfl (by kernel_rfl) (by kernel_rfl) (by kernel_rfl) (by decide) (fun _ _ _ h => h) (Or.inl ⟨by rfl, fun w _ => ?_⟩) ?_; rotate_left; (go_simp; with_reducible rfl); simp only [Act.put, List.setIfInBounds_toArray, List.set_cons_zero, List.set_cons_succ]
  refine wpAnyK_load 27 (i := 7) (fuel := 7) rfl rfl (by kernel_rfl) (by kernel_rfl) (by kernel_rfl) (.inl (by kernel_rfl)) (by decide) (fun _ _ _ h => h) rfl (fun w h => ex_loadv h _ _ rfl _ _ rfl) ?_; simp only [Act.put, List.setIfInBounds_toArray, List.set_cons_zero, List.set_cons_succ]
  refine wpAnyK_pure 28 (v := (.int .i64 E1)) (i := 8) (fuel := 6) rfl rfl (by kernel_rfl) (by kernel_rfl) (by kernel_rfl) (by decide) (fun _ _ _ h => h) (Or.inl ⟨by rfl, fun w _ => (by go_simp)⟩) ?_; simp only [Act.put, List.setIfInBounds_toArray, List.set_cons_zero, List.set_cons_succ]
  refine wpAnyK_pure 29 (v := (.int .i64 (D : Int))) (i := 9) (fuel := 5) rfl rfl (by kernel_rfl) (by kernel_rfl) (by kernel_rfl) (by decide) (fun _ _ _ h => h) (Or.inl ⟨by rfl, fun w _ => (by go_simp)⟩) ?_; simp only [Act.put, List.setIfInBounds_toArray, List.set_cons_zero, List.set_cons_succ]
  refine wpAnyK_pure 30 (v := (.int .i64 ((sent : Int) + (D : Int)))) (i := 10) (fuel := 4) rfl rfl (by kernel_rfl) (by kernel_rfl) (by kernel_rfl) (by decide) (fun _ _ _ h => h) (Or.inl ⟨by rfl, fun w _ => (by go_simp)⟩) ?_; simp only [Act.put, List.setIfInBounds_toArray, List.set_cons_zero, List.set_cons_succ]
  refine wpAnyK_two (i := 1) (i2 := 12) (fuel := 3) rfl rfl (by kernel_rfl) rfl rfl (fun K hK => ?_) (fun K hK => ?_)
  focus
    (go_simp; go_wp2_with (go_at_call 45; refine (clone_bytes (A := B) (n := m) (c := d) (xs := b) h (by omega)).mono ?_; clear h; rintro e w ⟨A1, c1, rfl, h⟩)); refine hK.out _ _ (fun _ => h.to) ?_; clear hK K
    try simp only [Act.put, List.setIfInBounds_toArray, List.set_cons_zero, List.set_cons_succ]
    refine wpAnyK_load 31 (i := 11) (fuel := 2) rfl rfl (by kernel_rfl) (by kernel_rfl) (by kernel_rfl) (.inl (by kernel_rfl)) (by decide) (fun _ _ _ h => h) rfl (fun w h => ex_lit _ _ rfl [(0, .slice A1 m c1), (1, .int .i64 ((sent : Int) + (D : Int)))] rfl) ?_; simp only [Act.put, List.setIfInBounds_toArray, List.set_cons_zero, List.set_cons_succ]
    refine wpAnyK_one (i := 12) (fuel := 1) rfl (by kernel_rfl) rfl (fun K hK => ?_)
    refine op_runs (some 5) rfl (ex_alloc h 107 rfl) ?_; clear h; rintro _ w ⟨gm, rfl, h⟩; refine hK.out _ _ (fun _ => h.to) ?_; clear hK K
    try simp only [Act.put, List.setIfInBounds_toArray, List.set_cons_zero, List.set_cons_succ]
    refine wpAnyK_one (i := 13) (fuel := 0) rfl (by kernel_rfl) rfl (fun K hK => ?_)
    refine op_runs none rfl (ex_store h _ _ _ rfl _ _ rfl (c_lossy_message (.slice A1 m c1) (.int .i64 ((sent : Int) + (D : Int)))) rfl) ?_; clear h; rintro _ w ⟨rfl, h⟩; refine hK.out _ _ (SJ.past (by kernel_rfl)) ?_; clear hK K
    try simp only [Act.put, List.setIfInBounds_toArray, List.set_cons_zero, List.set_cons_succ]
    refine wpAnyK_done (by kernel_rfl) ?_; rw [noPanic_normal]
  rotate_left 1
  focus
    refine op_runs (some 5) rfl (ex_alloc h 107 rfl) ?_; clear h; rintro _ w ⟨gm, rfl, h⟩; refine hK.out _ _ (fun _ => h.to) ?_; clear hK K
    try simp only [Act.put, List.setIfInBounds_toArray, List.set_cons_zero, List.set_cons_succ]
    refine wpAnyK_one (i := 1) (fuel := 2) rfl (by kernel_rfl) rfl (fun K hK => ?_)
    (go_simp; go_wp2_with (go_at_call 45; refine (clone_bytes (A := B) (n := m) (c := d) (xs := b) h (by omega)).mono ?_; clear h; rintro e w ⟨A1, c1, rfl, h⟩)); refine hK.out _ _ (fun _ => h.to) ?_; clear hK K
    try simp only [Act.put, List.setIfInBounds_toArray, List.set_cons_zero, List.set_cons_succ]
    refine wpAnyK_load 31 (i := 11) (fuel := 1) rfl rfl (by kernel_rfl) (by kernel_rfl) (by kernel_rfl) (.inl (by kernel_rfl)) (by decide) (fun _ _ _ h => h) rfl (fun w h => ex_lit _ _ rfl [(0, .slice A1 m c1), (1, .int .i64 ((sent : Int) + (D : Int)))] rfl) ?_; simp only [Act.put, List.setIfInBounds_toArray, List.set_cons_zero, List.set_cons_succ]
    refine wpAnyK_one (i := 13) (fuel := 0) rfl (by kernel_rfl) rfl (fun K hK => ?_)
    refine op_runs none rfl (ex_store h _ _ _ rfl _ _ rfl (c_lossy_message (.slice A1 m c1) (.int .i64 ((sent : Int) + (D : Int)))) rfl) ?_; clear h; rintro _ w ⟨rfl, h⟩; refine hK.out _ _ (SJ.past (by kernel_rfl)) ?_; clear hK K
    try simp only [Act.put, List.setIfInBounds_toArray, List.set_cons_zero, List.set_cons_succ]
    refine wpAnyK_done (by kernel_rfl) ?_; rw [noPanic_normal]
  rotate_left 1
  all_goals
    have hbl : m = b.length := hml.out
    subst hbl
    replace h := h.release A1 (by omega)
    go_wp2_with (first
      | (refine wl_runs rfl (ex_alloc h 3 rfl) ?_; clear h; rintro _ w ⟨ga, rfl, h⟩)
      | (refine wl_runs rfl (ex_store1i h _ _ _ rfl _ _ rfl _ _ rfl) ?_; clear h; rintro _ w ⟨rfl, h⟩; try dsimp only [Act.put])
      | (go_at_call 46; refine (back_make h).mono ?_; clear h; rintro e w ⟨gb, rfl, h⟩)
      | (refine wl_reads rfl (ex_loadv h _ _ rfl _ _ rfl) ?_))
    go_step3
    go_wp2_with (first
      | (go_at_call 46; refine (back_make h).mono ?_; clear h; rintro e w ⟨gb, rfl, h⟩)
      | (refine wl_reads rfl (ex_loadv h _ _ rfl _ _ rfl) ?_))
    replace h : St S w0 w (BL gb wA wc wait [] ++ (eBlk ga 3 [.int .i64 (wait.length : Int)] :: eBlk gm 107 (c_lossy_message (.slice A1 b.length c1) (.int .i64 ((sent : Int) + (D : Int)))) :: eBlk gf 102 (fac f) :: eBlk g 86 (c_lossy_Link (.slice fA fates.length fc) (.int .i64 (sent : Int)) (.slice wA wait.length wc) (.bool true)) :: eSl fA fates.length fc 2 (fates.flatMap fac) :: eSls (wait.map mgp) :: eSl A1 b.length c1 1 (u8s b) :: F)) := St.to (L' := eBlk gb 84 [.slice wA wait.length wc] :: eOwn 107 2 wA wait.length wc (wait.flatMap mgc) :: eBlk ga 3 [.int .i64 (wait.length : Int)] :: eBlk gm 107 (c_lossy_message (.slice A1 b.length c1) (.int .i64 ((sent : Int) + (D : Int)))) :: eBlk gf 102 (fac f) :: eBlk g 86 (c_lossy_Link (.slice fA fates.length fc) (.int .i64 (sent : Int)) (.slice wA wait.length wc) (.bool true)) :: eSl fA fates.length fc 2 (fates.flatMap fac) :: eSls (wait.map mgp) :: eSl A1 b.length c1 1 (u8s b) :: F) h
    refine wp_iter rfl (enters_of Try.func56 (by kernel_rfl) rfl) (back_iters (by omega)) (fun _ => rfl) h (SBackM ga (sent + D) wait (eBlk gm 107 (c_lossy_message (.slice A1 b.length c1) (.int .i64 ((sent : Int) + (D : Int)))) :: eBlk gf 102 (fac f) :: eBlk g 86 (c_lossy_Link (.slice fA fates.length fc) (.int .i64 (sent : Int)) (.slice wA wait.length wc) (.bool true)) :: eSl fA fates.length fc 2 (fates.flatMap fac) :: eSls (wait.map mgp) :: eSl A1 b.length c1 1 (u8s b) :: F)) (SBackMx ga (sent + D) wait (eBlk gm 107 (c_lossy_message (.slice A1 b.length c1) (.int .i64 ((sent : Int) + (D : Int)))) :: eBlk gf 102 (fac f) :: eBlk g 86 (c_lossy_Link (.slice fA fates.length fc) (.int .i64 (sent : Int)) (.slice wA wait.length wc) (.bool true)) :: eSl fA fates.length fc 2 (fates.flatMap fac) :: eSls (wait.map mgp) :: eSl A1 b.length c1 1 (u8s b) :: F)) (SBackAx ga (sent + D) wait (eBlk gm 107 (c_lossy_message (.slice A1 b.length c1) (.int .i64 ((sent : Int) + (D : Int)))) :: eBlk gf 102 (fac f) :: eBlk g 86 (c_lossy_Link (.slice fA fates.length fc) (.int .i64 (sent : Int)) (.slice wA wait.length wc) (.bool true)) :: eSl fA fates.length fc 2 (fates.flatMap fac) :: eSls (wait.map mgp) :: eSl A1 b.length c1 1 (u8s b) :: F)) ⟨List.nil_prefix, fun _ h => (by cases h), rfl⟩ ?assign ?body ?done ?stop
    case assign =>
      rintro l T X O R' pre x L W ⟨hpr, hgt, rfl⟩ _ h
      have hrx : Row (mgc x.2) 2 := c_lossy_message.row _ _
      rw [zip2]
      simp only [List.setIfInBounds_toArray, List.set_cons_succ, List.set_cons_zero]
      gi_wp2_with (first
        | (refine wi_runs rfl (ex_alloc h 107 rfl) ?_; clear h; rintro _ w ⟨g8, rfl, h⟩)
        | (refine wi_runs rfl (ex_store h _ _ _ rfl _ _ rfl (mgc x.2) rfl) ?_; clear h; rintro _ w ⟨rfl, h⟩; try dsimp only [Act.put]))
      exact ⟨_, ⟨g8, rfl, hpr, hgt, rfl⟩, h.to⟩
    case body =>
      rintro l T X O R' pre x a' L W W2 ⟨g8, rfl, hpr, hgt, rfl⟩ hok h
      simp only [List.setIfInBounds_toArray, List.set_cons_succ, List.set_cons_zero]
      obtain ⟨hl1, hx1, hx2⟩ := backL_at hok
      clear hx2
      by_cases hx : x.2.due ≤ sent + D
      · have f1 : (x.2.due : Int) ≤ (sent : Int) + (D : Int) := by omega
        have hpl := place_stop hok hgt hx
        clear hok hpr hx hx1
        gi_wp2_with (first | (refine wi_reads rfl (ex_loadv h _ _ rfl _ _ rfl) ?_))
        exact ⟨_, ⟨rfl, _, hpl, rfl⟩, h.to⟩
      · have f1 : ¬ (x.2.due : Int) ≤ (sent : Int) + (D : Int) := by omega
        have Hx1 := Lib.hid hx1
        have Hok := Lib.hid hok
        clear hok hpr hx1
        gi_wp2_with (first
          | (refine wi_runs rfl (ex_store1i h _ _ _ rfl _ _ rfl _ _ rfl) ?_; clear h; rintro _ w ⟨rfl, h⟩; try dsimp only [Act.put])
          | (refine wi_reads rfl (ex_loadv h _ _ rfl _ _ rfl) ?_))
        refine ⟨_, ⟨Hok.out, fun p hp => ?_, rfl⟩, ?_⟩
        · rcases List.mem_append.1 hp with hp | hp
          · exact hgt p hp
          · rw [List.mem_singleton] at hp
            subst hp
            omega
        · rw [List.length_append, List.length_cons, List.length_nil, Nat.zero_add, ← Hx1.out]
          exact h.to
    case done =>
      rintro D9 pre L Lf W ⟨hpr, hgt, rfl⟩ ⟨rfl, hp⟩ h
      obtain rfl := hp rfl
      have hpl := place_done hgt
      obtain ⟨i, hi⟩ : ∃ i : Nat, wait.length - (backL wait).length = i := ⟨_, rfl⟩
      obtain rfl : i = 0 := by rw [backL_length] at hi; omega
      rw [hi] at h
      clear hi hp hgt hpr
      obtain ⟨i, hi⟩ : ∃ i : Nat, i = 0 := ⟨_, rfl⟩
      rw [← hi] at h hpl
      clear hi
      replace h : St S w0 W (eDfr D9 :: eBlk gb 84 [.slice wA wait.length wc] :: eOwn 107 2 wA wait.length wc (wait.flatMap mgc) :: eBlk ga 3 [.int .i64 (i : Int)] :: eBlk gm 107 (c_lossy_message (.slice A1 b.length c1) (.int .i64 ((sent : Int) + (D : Int)))) :: eBlk gf 102 (fac f) :: eBlk g 86 (c_lossy_Link (.slice fA fates.length fc) (.int .i64 (sent : Int)) (.slice wA wait.length wc) (.bool true)) :: eSl fA fates.length fc 2 (fates.flatMap fac) :: eSls (wait.map mgp) :: eSl A1 b.length c1 1 (u8s b) :: F) := h
      replace h : St S w0 W (eDfr D9 :: eBlk g 86 (c_lossy_Link (.slice fA fates.length fc) (.int .i64 (sent : Int)) (.slice wA wait.length wc) (.bool true)) :: eOwn 107 2 wA wait.length wc (wait.flatMap mgc) :: eBlk ga 3 [.int .i64 (i : Int)] :: eBlk gm 107 (c_lossy_message (.slice A1 b.length c1) (.int .i64 ((sent : Int) + (D : Int)))) :: eBlk gf 102 (fac f) :: eSl fA fates.length fc 2 (fates.flatMap fac) :: eSls (wait.map mgp) :: eSl A1 b.length c1 1 (u8s b) :: F) := h.to
      obtain ⟨Y, hY⟩ : ∃ Y : Mg, Y = ⟨b, sent + D, A1, c1⟩ := ⟨_, rfl⟩
      have hYc : mgc Y = c_lossy_message (.slice A1 b.length c1) (.int .i64 ((sent : Int) + (D : Int))) := by rw [hY]; simp only [mgc, hsc]
      have HY := Lib.hid hY
      have hil := hpl.le
      have Hia := Lib.hid (show ∀ j, ((wait.take i ++ List.replicate j Y ++ wait.drop i).flatMap mgc).take (i * 2) ++ c_lossy_message (.slice A1 b.length c1) (.int .i64 ((sent : Int) + (D : Int))) ++ ((wait.take i ++ List.replicate j Y ++ wait.drop i).flatMap mgc).drop (i * 2) = (wait.take i ++ List.replicate (j + 1) Y ++ wait.drop i).flatMap mgc from fun j => by rw [← hYc]; exact ins_at hil)
      clear hYc hY
      go_wp2_with (first | (refine wl_reads rfl (ex_loadv h _ _ rfl _ _ rfl) ?_))
      go_loopw [54] (fun x wr => ∃ (j : Nat) (A : Option Addr) (c : Nat), x = .int .i64 (j : Int) ∧ j ≤ N ∧ St S w0 wr (eDfr D9 :: eBlk g 86 (c_lossy_Link (.slice fA fates.length fc) (.int .i64 (sent : Int)) (.slice A (wait.length + j) c) (.bool true)) :: eOwn 107 2 A (wait.length + j) c ((wait.take i ++ List.replicate j Y ++ wait.drop i).flatMap mgc) :: eBlk ga 3 [.int .i64 (i : Int)] :: eBlk gm 107 (c_lossy_message (.slice A1 b.length c1) (.int .i64 ((sent : Int) + (D : Int)))) :: eSl fA fates.length fc 2 (fates.flatMap fac) :: eSls (wait.map mgp) :: eSl A1 b.length c1 1 (u8s b) :: F)) (fun x _ => N - (intOf x).toNat)
      case atStart => exact ⟨0, wA, wc, rfl, Nat.zero_le _, by simpa using h.to⟩
      case round =>
        clear h
        obtain ⟨j, A, c, rfl, hjN, h⟩ := hrel
        by_cases hj : j < N
        · have f2 : (j : Int) < (N : Int) := by omega
          have hrm : Row (c_lossy_message (.slice A1 b.length c1) (.int .i64 ((sent : Int) + (D : Int)))) 2 := c_lossy_message.row _ _
          go_upto_region 11 with (fail)
          refine wp_nopanic ?_
          refine wp_region_K 8 (fun w' => St _ _ w' _) (by kernel_rfl) h.drew ?_; replace h := h.drew
          refine wpAnyK_pure 56 (v := ?_) (i := 0) (fuel := 11) rfl rfl (by kernel_rfl) (by kernel_rfl) (by kernel_rfl) (by decide) (fun _ _ _ h => h) (Or.inl ⟨by rfl, fun w _ => ?_⟩) ?_; rotate_left; (go_simp; with_reducible rfl); simp only [Act.put, List.setIfInBounds_toArray, List.set_cons_zero, List.set_cons_succ]
          refine wpAnyK_pure 57 (v := ?_) (i := 1) (fuel := 10) rfl rfl (by kernel_rfl) (by kernel_rfl) (by kernel_rfl) (by decide) (fun _ _ _ h => h) (Or.inl ⟨by rfl, fun w _ => ?_⟩) ?_; rotate_left; (go_simp; with_reducible rfl); simp only [Act.put, List.setIfInBounds_toArray, List.set_cons_zero, List.set_cons_succ]
          refine wpAnyK_pure 58 (v := ?_) (i := 2) (fuel := 9) rfl rfl (by kernel_rfl) (by kernel_rfl) (by kernel_rfl) (by decide) (fun _ _ _ h => h) (Or.inl ⟨by rfl, fun w _ => ?_⟩) ?_; rotate_left; (go_simp; with_reducible rfl); simp only [Act.put, List.setIfInBounds_toArray, List.set_cons_zero, List.set_cons_succ]
          refine wpAnyK_pure 59 (v := ?_) (i := 3) (fuel := 8) rfl rfl (by kernel_rfl) (by kernel_rfl) (by kernel_rfl) (by decide) (fun _ _ _ h => h) (Or.inl ⟨by rfl, fun w _ => ?_⟩) ?_; rotate_left; (go_simp; with_reducible rfl); simp only [Act.put, List.setIfInBounds_toArray, List.set_cons_zero, List.set_cons_succ]
          refine wpAnyK_load 60 (i := 4) (fuel := 7) rfl rfl (by kernel_rfl) (by kernel_rfl) (by kernel_rfl) (.inl (by kernel_rfl)) (by decide) (fun _ _ _ h => h) rfl (fun w h => ex_loadv h _ _ rfl _ _ rfl) ?_; simp only [Act.put, List.setIfInBounds_toArray, List.set_cons_zero, List.set_cons_succ]
          refine wpAnyK_load 61 (i := 5) (fuel := 6) rfl rfl (by kernel_rfl) (by kernel_rfl) (by kernel_rfl) (.inl (by kernel_rfl)) (by decide) (fun _ _ _ h => h) rfl (fun w h => ex_loadv h _ _ rfl _ _ rfl) ?_; simp only [Act.put, List.setIfInBounds_toArray, List.set_cons_zero, List.set_cons_succ]
          refine wpAnyK_load 62 (i := 6) (fuel := 5) rfl rfl (by kernel_rfl) (by kernel_rfl) (by kernel_rfl) (.inl (by kernel_rfl)) (by decide) (fun _ _ _ h => h) rfl (fun w h => ex_loadv h _ _ rfl _ _ rfl) ?_; simp only [Act.put, List.setIfInBounds_toArray, List.set_cons_zero, List.set_cons_succ]
          refine wpAnyK_one (i := 7) (fuel := 4) rfl (by kernel_rfl) rfl (fun K hK => ?_)
          refine op_runs (some 63) rfl (ex_slice1 h _ _ rfl (c_lossy_message (.slice A1 b.length c1) (.int .i64 ((sent : Int) + (D : Int)))) rfl) ?_; clear h; rintro _ w ⟨gx, rfl, h⟩; refine hK.out _ _ (fun _ => h.to) ?_; clear hK K
          try simp only [Act.put, List.setIfInBounds_toArray, List.set_cons_zero, List.set_cons_succ]
          refine wpAnyK_one (i := 8) (fuel := 3) rfl (by kernel_rfl) rfl (fun K hK => ?_)
          (go_simp; go_wp2_with (go_at_call 47; refine (ins_code (A := A) (n := wait.length + j) (c := c) (i := i) (gb := gx) h (by omega) (by omega) rfl hrm.one (mgs_one _)).mono ?_; rw [Hia.out j]; clear h; rintro e w ⟨A2, c2, rfl, h⟩)); refine hK.out _ _ (SJ.past (by kernel_rfl)) ?_; clear hK K
          try simp only [Act.put, List.setIfInBounds_toArray, List.set_cons_zero, List.set_cons_succ]
          refine wpAnyK_pure 65 (v := ?_) (i := 9) (fuel := 2) rfl rfl (by kernel_rfl) (by kernel_rfl) (by kernel_rfl) (by decide) (fun _ _ _ h => h) (Or.inl ⟨by rfl, fun w _ => ?_⟩) ?_; rotate_left; (go_simp; with_reducible rfl); simp only [Act.put, List.setIfInBounds_toArray, List.set_cons_zero, List.set_cons_succ]
          refine wpAnyK_pure 66 (v := ?_) (i := 10) (fuel := 1) rfl rfl (by kernel_rfl) (by kernel_rfl) (by kernel_rfl) (by decide) (fun _ _ _ h => h) (Or.inl ⟨by rfl, fun w _ => ?_⟩) ?_; rotate_left; (go_simp; with_reducible rfl); simp only [Act.put, List.setIfInBounds_toArray, List.set_cons_zero, List.set_cons_succ]
          refine wpAnyK_one (i := 11) (fuel := 0) rfl (by kernel_rfl) rfl (fun K hK => ?_)
          refine op_runs none rfl (ex_store1s h _ _ _ rfl g 2 rfl _ _ _ rfl) ?_; clear h; rintro _ w ⟨rfl, h⟩; refine hK.out _ _ (SJ.past (by kernel_rfl)) ?_; clear hK K
          try simp only [Act.put, List.setIfInBounds_toArray, List.set_cons_zero, List.set_cons_succ]
          refine wpAnyK_done (by kernel_rfl) ?_; rw [noPanic_normal]
          go_wp2
          have h2 : St S w0 w (eDfr D9 :: eBlk g 86 (c_lossy_Link (.slice fA fates.length fc) (.int .i64 (sent : Int)) (.slice A2 (wait.length + j + 1) c2) (.bool true)) :: eOwn 107 2 A2 (wait.length + j + 1) c2 ((wait.take i ++ List.replicate (j + 1) Y ++ wait.drop i).flatMap mgc) :: eBlk ga 3 [.int .i64 (i : Int)] :: eBlk gm 107 (c_lossy_message (.slice A1 b.length c1) (.int .i64 ((sent : Int) + (D : Int)))) :: eSl fA fates.length fc 2 (fates.flatMap fac) :: eSls (wait.map mgp) :: eSl A1 b.length c1 1 (u8s b) :: F) := h.to
          refine ⟨⟨j + 1, A2, c2, by push_cast; rfl, by omega, h2⟩, ?_⟩
          simp only [intOf]
          omega
        · have hjn : j = N := by omega
          subst hjn
          go_wp2_with (first | (refine wl_runs rfl (ex_store1i h _ _ _ rfl _ _ rfl _ _ rfl) ?_; clear h; rintro _ w ⟨rfl, h⟩; try dsimp only [Act.put]) | (refine wl_reads rfl (ex_loadv h _ _ rfl _ _ rfl) ?_))
          have hlen := ins_len (j := j) (x := Y) hil
          have h3 : St S w0 w (eSls (wait.map mgp) :: eSl A1 b.length c1 1 (u8s b) :: eDfr D9 :: eBlk g 86 (c_lossy_Link (.slice fA fates.length fc) (.int .i64 ((sent : Int) + 1)) (.slice A (wait.length + j) c) (.bool true)) :: eSl fA fates.length fc 2 (fates.flatMap fac) :: eOwn 107 2 A (wait.length + j) c ((wait.take i ++ List.replicate j Y ++ wait.drop i).flatMap mgc) :: F) := h.to
          have h4 := h3.poolAdd.poolSub (ss' := (wait.take i ++ List.replicate j Y ++ wait.drop i).map mgp) (fun y hy => by
            obtain ⟨x, hx, rfl⟩ := List.mem_map.1 hy
            rcases List.mem_append.1 hx with hx | hx
            · rcases List.mem_append.1 hx with hx | hx
              · exact List.mem_append_left _ (List.mem_map.2 ⟨x, List.mem_of_mem_take hx, rfl⟩)
              · rw [List.eq_of_mem_replicate hx, HY.out]
                exact List.mem_append_right _ (by simp [mgp])
            · exact List.mem_append_left _ (List.mem_map.2 ⟨x, List.mem_of_mem_drop hx, rfl⟩))
          refine ret_mark (h4.dfr (D := D9)) rfl (results_none rfl _ _ _) ⟨rfl, ⟨fA, fc, A, c⟩, i, Y, by rw [HY.out]; exact hpl, by rw [HY.out], by rw [HY.out], ?_⟩
          have h5 := h4.putDfr (D := D9)
          rw [← hlen] at h5
          have e : ((sent + 1 : Nat) : Int) = (sent : Int) + 1 := by omega
          exact St.lkShut (g := g) (k := ⟨fA, fc, A, c⟩) (s := ⟨fates, sent + 1, wait.take i ++ List.replicate j Y ++ wait.drop i⟩) (by simp only [LKP, lkc, e]; exact h5.to)
    case stop =>
      rintro D9 c pre L Lf W ⟨rfl, i, hpl, rfl⟩ ⟨rfl, _⟩ h
      replace h : St S w0 W (eDfr D9 :: eBlk gb 84 [.slice wA wait.length wc] :: eOwn 107 2 wA wait.length wc (wait.flatMap mgc) :: eBlk ga 3 [.int .i64 (i : Int)] :: eBlk gm 107 (c_lossy_message (.slice A1 b.length c1) (.int .i64 ((sent : Int) + (D : Int)))) :: eBlk gf 102 (fac f) :: eBlk g 86 (c_lossy_Link (.slice fA fates.length fc) (.int .i64 (sent : Int)) (.slice wA wait.length wc) (.bool true)) :: eSl fA fates.length fc 2 (fates.flatMap fac) :: eSls (wait.map mgp) :: eSl A1 b.length c1 1 (u8s b) :: F) := h
      replace h : St S w0 W (eDfr D9 :: eBlk g 86 (c_lossy_Link (.slice fA fates.length fc) (.int .i64 (sent : Int)) (.slice wA wait.length wc) (.bool true)) :: eOwn 107 2 wA wait.length wc (wait.flatMap mgc) :: eBlk ga 3 [.int .i64 (i : Int)] :: eBlk gm 107 (c_lossy_message (.slice A1 b.length c1) (.int .i64 ((sent : Int) + (D : Int)))) :: eBlk gf 102 (fac f) :: eSl fA fates.length fc 2 (fates.flatMap fac) :: eSls (wait.map mgp) :: eSl A1 b.length c1 1 (u8s b) :: F) := h.to
      obtain ⟨Y, hY⟩ : ∃ Y : Mg, Y = ⟨b, sent + D, A1, c1⟩ := ⟨_, rfl⟩
      have hYc : mgc Y = c_lossy_message (.slice A1 b.length c1) (.int .i64 ((sent : Int) + (D : Int))) := by rw [hY]; simp only [mgc, hsc]
      have HY := Lib.hid hY
      have hil := hpl.le
      have Hia := Lib.hid (show ∀ j, ((wait.take i ++ List.replicate j Y ++ wait.drop i).flatMap mgc).take (i * 2) ++ c_lossy_message (.slice A1 b.length c1) (.int .i64 ((sent : Int) + (D : Int))) ++ ((wait.take i ++ List.replicate j Y ++ wait.drop i).flatMap mgc).drop (i * 2) = (wait.take i ++ List.replicate (j + 1) Y ++ wait.drop i).flatMap mgc from fun j => by rw [← hYc]; exact ins_at hil)
      clear hYc hY
      go_wp2_with (first | (refine wl_reads rfl (ex_loadv h _ _ rfl _ _ rfl) ?_))
      go_loopw [54] (fun x wr => ∃ (j : Nat) (A : Option Addr) (c : Nat), x = .int .i64 (j : Int) ∧ j ≤ N ∧ St S w0 wr (eDfr D9 :: eBlk g 86 (c_lossy_Link (.slice fA fates.length fc) (.int .i64 (sent : Int)) (.slice A (wait.length + j) c) (.bool true)) :: eOwn 107 2 A (wait.length + j) c ((wait.take i ++ List.replicate j Y ++ wait.drop i).flatMap mgc) :: eBlk ga 3 [.int .i64 (i : Int)] :: eBlk gm 107 (c_lossy_message (.slice A1 b.length c1) (.int .i64 ((sent : Int) + (D : Int)))) :: eSl fA fates.length fc 2 (fates.flatMap fac) :: eSls (wait.map mgp) :: eSl A1 b.length c1 1 (u8s b) :: F)) (fun x _ => N - (intOf x).toNat)
      case atStart => exact ⟨0, wA, wc, rfl, Nat.zero_le _, by simpa using h.to⟩
      case round =>
        clear h
        obtain ⟨j, A, c, rfl, hjN, h⟩ := hrel
        by_cases hj : j < N
        · have f2 : (j : Int) < (N : Int) := by omega
          have hrm : Row (c_lossy_message (.slice A1 b.length c1) (.int .i64 ((sent : Int) + (D : Int)))) 2 := c_lossy_message.row _ _
          go_upto_region 11 with (fail)
          refine wp_nopanic ?_
          refine wp_region_K 8 (fun w' => St _ _ w' _) (by kernel_rfl) h.drew ?_; replace h := h.drew
          refine wpAnyK_pure 56 (v := ?_) (i := 0) (fuel := 11) rfl rfl (by kernel_rfl) (by kernel_rfl) (by kernel_rfl) (by decide) (fun _ _ _ h => h) (Or.inl ⟨by rfl, fun w _ => ?_⟩) ?_; rotate_left; (go_simp; with_reducible rfl); simp only [Act.put, List.setIfInBounds_toArray, List.set_cons_zero, List.set_cons_succ]
          refine wpAnyK_pure 57 (v := ?_) (i := 1) (fuel := 10) rfl rfl (by kernel_rfl) (by kernel_rfl) (by kernel_rfl) (by decide) (fun _ _ _ h => h) (Or.inl ⟨by rfl, fun w _ => ?_⟩) ?_; rotate_left; (go_simp; with_reducible rfl); simp only [Act.put, List.setIfInBounds_toArray, List.set_cons_zero, List.set_cons_succ]
          refine wpAnyK_pure 58 (v := ?_) (i := 2) (fuel := 9) rfl rfl (by kernel_rfl) (by kernel_rfl) (by kernel_rfl) (by decide) (fun _ _ _ h => h) (Or.inl ⟨by rfl, fun w _ => ?_⟩) ?_; rotate_left; (go_simp; with_reducible rfl); simp only [Act.put, List.setIfInBounds_toArray, List.set_cons_zero, List.set_cons_succ]
          refine wpAnyK_pure 59 (v := ?_) (i := 3) (fuel := 8) rfl rfl (by kernel_rfl) (by kernel_rfl) (by kernel_rfl) (by decide) (fun _ _ _ h => h) (Or.inl ⟨by rfl, fun w _ => ?_⟩) ?_; rotate_left; (go_simp; with_reducible rfl); simp only [Act.put, List.setIfInBounds_toArray, List.set_cons_zero, List.set_cons_succ]
          refine wpAnyK_load 60 (i := 4) (fuel := 7) rfl rfl (by kernel_rfl) (by kernel_rfl) (by kernel_rfl) (.inl (by kernel_rfl)) (by decide) (fun _ _ _ h => h) rfl (fun w h => ex_loadv h _ _ rfl _ _ rfl) ?_; simp only [Act.put, List.setIfInBounds_toArray, List.set_cons_zero, List.set_cons_succ]
          refine wpAnyK_load 61 (i := 5) (fuel := 6) rfl rfl (by kernel_rfl) (by kernel_rfl) (by kernel_rfl) (.inl (by kernel_rfl)) (by decide) (fun _ _ _ h => h) rfl (fun w h => ex_loadv h _ _ rfl _ _ rfl) ?_; simp only [Act.put, List.setIfInBounds_toArray, List.set_cons_zero, List.set_cons_succ]
          refine wpAnyK_load 62 (i := 6) (fuel := 5) rfl rfl (by kernel_rfl) (by kernel_rfl) (by kernel_rfl) (.inl (by kernel_rfl)) (by decide) (fun _ _ _ h => h) rfl (fun w h => ex_loadv h _ _ rfl _ _ rfl) ?_; simp only [Act.put, List.setIfInBounds_toArray, List.set_cons_zero, List.set_cons_succ]
          refine wpAnyK_one (i := 7) (fuel := 4) rfl (by kernel_rfl) rfl (fun K hK => ?_)
          refine op_runs (some 63) rfl (ex_slice1 h _ _ rfl (c_lossy_message (.slice A1 b.length c1) (.int .i64 ((sent : Int) + (D : Int)))) rfl) ?_; clear h; rintro _ w ⟨gx, rfl, h⟩; refine hK.out _ _ (fun _ => h.to) ?_; clear hK K
          try simp only [Act.put, List.setIfInBounds_toArray, List.set_cons_zero, List.set_cons_succ]
          refine wpAnyK_one (i := 8) (fuel := 3) rfl (by kernel_rfl) rfl (fun K hK => ?_)
          (go_simp; go_wp2_with (go_at_call 47; refine (ins_code (A := A) (n := wait.length + j) (c := c) (i := i) (gb := gx) h (by omega) (by omega) rfl hrm.one (mgs_one _)).mono ?_; rw [Hia.out j]; clear h; rintro e w ⟨A2, c2, rfl, h⟩)); refine hK.out _ _ (SJ.past (by kernel_rfl)) ?_; clear hK K
          try simp only [Act.put, List.setIfInBounds_toArray, List.set_cons_zero, List.set_cons_succ]
          refine wpAnyK_pure 65 (v := ?_) (i := 9) (fuel := 2) rfl rfl (by kernel_rfl) (by kernel_rfl) (by kernel_rfl) (by decide) (fun _ _ _ h => h) (Or.inl ⟨by rfl, fun w _ => ?_⟩) ?_; rotate_left; (go_simp; with_reducible rfl); simp only [Act.put, List.setIfInBounds_toArray, List.set_cons_zero, List.set_cons_succ]
          refine wpAnyK_pure 66 (v := ?_) (i := 10) (fuel := 1) rfl rfl (by kernel_rfl) (by kernel_rfl) (by kernel_rfl) (by decide) (fun _ _ _ h => h) (Or.inl ⟨by rfl, fun w _ => ?_⟩) ?_; rotate_left; (go_simp; with_reducible rfl); simp only [Act.put, List.setIfInBounds_toArray, List.set_cons_zero, List.set_cons_succ]
          refine wpAnyK_one (i := 11) (fuel := 0) rfl (by kernel_rfl) rfl (fun K hK => ?_)
          refine op_runs none rfl (ex_store1s h _ _ _ rfl g 2 rfl _ _ _ rfl) ?_; clear h; rintro _ w ⟨rfl, h⟩; refine hK.out _ _ (SJ.past (by kernel_rfl)) ?_; clear hK K
          try simp only [Act.put, List.setIfInBounds_toArray, List.set_cons_zero, List.set_cons_succ]
          refine wpAnyK_done (by kernel_rfl) ?_; rw [noPanic_normal]
          go_wp2
          have h2 : St S w0 w (eDfr D9 :: eBlk g 86 (c_lossy_Link (.slice fA fates.length fc) (.int .i64 (sent : Int)) (.slice A2 (wait.length + j + 1) c2) (.bool true)) :: eOwn 107 2 A2 (wait.length + j + 1) c2 ((wait.take i ++ List.replicate (j + 1) Y ++ wait.drop i).flatMap mgc) :: eBlk ga 3 [.int .i64 (i : Int)] :: eBlk gm 107 (c_lossy_message (.slice A1 b.length c1) (.int .i64 ((sent : Int) + (D : Int)))) :: eSl fA fates.length fc 2 (fates.flatMap fac) :: eSls (wait.map mgp) :: eSl A1 b.length c1 1 (u8s b) :: F) := h.to
          refine ⟨⟨j + 1, A2, c2, by push_cast; rfl, by omega, h2⟩, ?_⟩
          simp only [intOf]
          omega
        · have hjn : j = N := by omega
          subst hjn
          go_wp2_with (first | (refine wl_runs rfl (ex_store1i h _ _ _ rfl _ _ rfl _ _ rfl) ?_; clear h; rintro _ w ⟨rfl, h⟩; try dsimp only [Act.put]) | (refine wl_reads rfl (ex_loadv h _ _ rfl _ _ rfl) ?_))
          have hlen := ins_len (j := j) (x := Y) hil
          have h3 : St S w0 w (eSls (wait.map mgp) :: eSl A1 b.length c1 1 (u8s b) :: eDfr D9 :: eBlk g 86 (c_lossy_Link (.slice fA fates.length fc) (.int .i64 ((sent : Int) + 1)) (.slice A (wait.length + j) c) (.bool true)) :: eSl fA fates.length fc 2 (fates.flatMap fac) :: eOwn 107 2 A (wait.length + j) c ((wait.take i ++ List.replicate j Y ++ wait.drop i).flatMap mgc) :: F) := h.to
          have h4 := h3.poolAdd.poolSub (ss' := (wait.take i ++ List.replicate j Y ++ wait.drop i).map mgp) (fun y hy => by
            obtain ⟨x, hx, rfl⟩ := List.mem_map.1 hy
            rcases List.mem_append.1 hx with hx | hx
            · rcases List.mem_append.1 hx with hx | hx
              · exact List.mem_append_left _ (List.mem_map.2 ⟨x, List.mem_of_mem_take hx, rfl⟩)
              · rw [List.eq_of_mem_replicate hx, HY.out]
                exact List.mem_append_right _ (by simp [mgp])
            · exact List.mem_append_left _ (List.mem_map.2 ⟨x, List.mem_of_mem_drop hx, rfl⟩))
          refine ret_mark (h4.dfr (D := D9)) rfl (results_none rfl _ _ _) ⟨rfl, ⟨fA, fc, A, c⟩, i, Y, by rw [HY.out]; exact hpl, by rw [HY.out], by rw [HY.out], ?_⟩
          have h5 := h4.putDfr (D := D9)
          rw [← hlen] at h5
          have e : ((sent + 1 : Nat) : Int) = (sent : Int) + 1 := by omega
          exact St.lkShut (g := g) (k := ⟨fA, fc, A, c⟩) (s := ⟨fates, sent + 1, wait.take i ++ List.replicate j Y ++ wait.drop i⟩) (by simp only [LKP, lkc, e]; exact h5.to)
end Go.Proofs.Ythnjfpjojmcccaa
