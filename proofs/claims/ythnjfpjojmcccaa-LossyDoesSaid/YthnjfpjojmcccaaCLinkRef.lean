/- The reference's line. -/
import Derived.Test.YthnjfpjojmcccaaCLinkSend
namespace Go.Proofs.Ythnjfpjojmcccaa
open Go.RowKit Go.Shelf
set_option linter.unusedVariables false
set_option linter.unusedSimpArgs false

abbrev mgr (x : Mg) : List Value := c_tabulariumref18_message (.slice x.A x.body.length x.c) (.int .i64 (x.due : Int))
theorem mgr_length (x : Mg) : (mgr x).length = 2 := rfl
theorem mgr_one (x : Mg) : ∀ u ∈ mgr x, u.oneCell' = true := by
  intro u hu
  simp [mgr, c_tabulariumref18_message] at hu
  rcases hu with rfl | rfl <;> rfl
theorem mgrs_one (l : List Mg) : ∀ u ∈ l.flatMap mgr, u.oneCell' = true := by
  intro u hu
  obtain ⟨f, _, hu⟩ := List.mem_flatMap.1 hu
  exact mgr_one f u hu
abbrev rkc (k : LkAt) (s : Lk) : List Value := c_tabulariumref18_Link (.slice k.fA s.fates.length k.fc) (.int .i64 (s.sent : Int)) (.slice k.wA s.wait.length k.wc)
abbrev RKP (g : Nat) (k : LkAt) (s : Lk) (L : List Ent) : List Ent :=
  eBlk g 77 (rkc k s) :: eSl k.fA s.fates.length k.fc 2 (s.fates.flatMap fac) :: eOwn 113 2 k.wA s.wait.length k.wc (s.wait.flatMap mgr) :: eSls (s.wait.map mgp) :: L
def eRk (g : Nat) (k : LkAt) (s : Lk) : Ent :=
  eStar (eStar (eStar (eBlk g 77 (rkc k s)) (eSl k.fA s.fates.length k.fc 2 (s.fates.flatMap fac))) (eOwn 113 2 k.wA s.wait.length k.wc (s.wait.flatMap mgr))) (eSls (s.wait.map mgp))
class SlotR2 (L : List Ent) (g : Nat) (k : outParam LkAt) (s : outParam Lk) (F : outParam (List Ent)) : Prop where
  perm : L.Perm (eRk g k s :: F)
instance (priority := high) SlotR2.hit (g : Nat) (k : LkAt) (s : Lk) (L : List Ent) : SlotR2 (eRk g k s :: L) g k s L := ⟨.refl _⟩
instance SlotR2.miss (x : Ent) (g : Nat) (k : LkAt) (s : Lk) (L F : List Ent) [h : SlotR2 L g k s F] : SlotR2 (x :: L) g k s (x :: F) := ⟨(h.perm.cons x).trans (.swap _ _ _)⟩
section
variable {S : Nat → Prop} {w0 w : World} {L F : List Ent}
theorem St.rkOpen (h : St S w0 w L) (g : Nat) {k : LkAt} {s : Lk} [sl : SlotR2 L g k s F] : St S w0 w (RKP g k s F) := (h.perm sl.perm).unstar.unstar.unstar
theorem St.rkShut {g : Nat} {k : LkAt} {s : Lk} (h : St S w0 w (RKP g k s F)) : St S w0 w (eRk g k s :: F) := h.star.star.star
theorem Tl.cap {e : TypeId} {A : Option Addr} {n c sz : Nat} {xs : List Value} (h : Tl w e sz A n c xs) {k : Nat} (hk : k ≤ n) : Tl w e sz A k k (xs.take (k * sz)) := by
  obtain ⟨h1, h2⟩ := h.take hk
  refine ⟨h1, ?_⟩
  rcases h2 with ⟨rfl, rfl, rfl⟩ | ⟨g, off, cur, rfl, hg, h3, h4, h5, h6⟩
  · exact .inl ⟨rfl, rfl, rfl⟩
  · exact .inr ⟨g, off, cur, rfl, hg, Nat.le_refl _, by omega, by have := Nat.mul_le_mul_right sz h3; omega, h6⟩
/-- s[:k:k]. -/
theorem St.capRow (h : St S w0 w L) (A : Option Addr) (k : Nat) {e : TypeId} {sz n c : Nat} {xs : List Value} [ko : SlotO L A e sz n c xs F] (hk : k ≤ n) : St S w0 w (eOwn e sz A k k (xs.take (k * sz)) :: F) :=
  h.recast (k := ⟨ko.perm⟩) (eOwn e sz A k k (xs.take (k * sz))) ((h.row A (k := ko)).cap hk) (fun _ hk => hk) (fun _ hk => hk)
end
theorem rk_waiting {S : Nat → Prop} {w0 w : World} {L F : List Ent} {g : Nat} {k : LkAt} {s : Lk} (h : St S w0 w L) [sl : SlotR2 L g k s F] :
    Calls Try.prog 31 #[.pointer (some ⟨g, 0, none⟩)] w fun e w' => e = .returned (.int .i64 (s.wait.length : Int)) ∧ w' = w := by
  replace h := h.rkOpen g
  go_enter Try.func31, Try.ntmps31
  go_wp2_with (first | (refine wl_reads rfl (ex_loadv h _ _ rfl _ _ rfl) ?_))
  go_ret
  exact ⟨rfl, rfl⟩
set_option maxRecDepth 100000 in
set_option maxHeartbeats 2000000 in
theorem rk_send {S : Nat → Prop} {w0 w : World} {L F : List Ent} {g : Nat} {k : LkAt} {s : Lk} {B : Option Addr} {m d : Nat} {b : List UInt8} (h : St S w0 w L) [sl : SlotR2 L g k s F] [ka : HasSl F B m d 1 (u8s b)] (hm : m ≤ 1000000) (hfl : s.fates.length ≤ 1000000) (hse : s.sent ≤ 1000000) (hwl : s.wait.length ≤ 900000) :
    Calls Try.prog 27 #[.pointer (some ⟨g, 0, none⟩), .slice B m d] w fun e w' => e = .returned (.tuple #[]) ∧ ∃ k' ys, ys.map mgb = List.replicate (clampT (fateM s).1) (b, s.sent + clampD (fateM s).2) ∧ St S w0 w' (eRk g k' ⟨s.fates, s.sent + 1, s.wait ++ ys⟩ :: F) := by
  obtain ⟨fates, sent, wait⟩ := s
  obtain ⟨fA, fc, wA, wc⟩ := k
  have hmb := (h.perm sl.perm).to (L' := F)
  have hml := (hmb.sl B m d).n_eq
  clear hmb
  subst hml
  replace h := h.rkOpen g
  simp only at h hfl hse hwl ⊢
  obtain ⟨f, hf⟩ : ∃ f, fateM ⟨fates, sent, wait⟩ = f := ⟨_, rfl⟩
  rw [hf]
  obtain ⟨D, hD⟩ : ∃ D, clampD f.2 = D := ⟨_, rfl⟩
  obtain ⟨N, hN⟩ : ∃ N, clampT f.1 = N := ⟨_, rfl⟩
  rw [hD, hN]
  have hDi : min (max f.2 0) 1000 = (D : Int) := by rw [← hD]; unfold clampD; omega
  have hNi : min (max f.1 0) 3 = (N : Int) := by rw [← hN]; unfold clampT; omega
  have hD1 : D ≤ 1000 := by omega
  have hN1 : N ≤ 3 := by omega
  have hcase : (f.2 < 0 ∧ D = 0) ∨ (0 ≤ f.2 ∧ f.2 ≤ 1000 ∧ f.2 = (D : Int)) ∨ (1000 < f.2 ∧ D = 1000) := by omega
  have HNi := Lib.hid hNi
  have hra : Row (fac f) 2 := c_api_Fate.row _ _
  clear hD hN hDi hNi
  have hsm : IntKind.i64.wrap ((sent : Int) + (D : Int)) = ((sent + D : Nat) : Int) := by rw [IntKind.wrap_i64]; omega
  have hsc : ((sent + D : Nat) : Int) = (sent : Int) + (D : Int) := by omega
  by_cases hk : sent < fates.length
  · have hff : fates[sent] = f := by rw [← hf]; simp [fateM, hk]
    have f1 : (sent : Int) < (fates.length : Int) := by omega
    obtain ⟨b0, off, rfl, _⟩ := (h.sl fA fates.length fc).pos (by omega)
    have hel : ∀ {w}, Sl w (some ⟨b0, off, none⟩) fates.length fc 2 (fates.flatMap fac) → Cells w b0 (off + sent * 2) (fac f) := fun hs => by rw [← hff]; exact hs.elemAt fac_length hk (by omega)
    have t0 : ((sent : Int)).toNat = sent := by omega
    clear hf hff
    go_enter Try.func27, Try.ntmps27
    go_upto_region 1 with (first
      | (refine wl_reads rfl (ex_lit _ _ rfl [(0, .int .i64 1)] rfl) ?_)
      | (refine wl_runs rfl (ex_alloc h 102 rfl) ?_; clear h; rintro _ w ⟨gf, rfl, h⟩)
      | (refine wl_runs rfl (ex_store h _ _ _ rfl _ _ rfl (c_api_Fate (.int .i64 1) (.int .i64 0)) rfl) ?_; clear h; rintro _ w ⟨rfl, h⟩; try dsimp only [Act.put]))
    refine wp_region_K 10 (fun w' => St _ _ w' _) (by kernel_rfl) h.drew ?_; replace h := h.drew
    refine wpAnyK_pure 8 (v := ?_) (i := 0) (fuel := 9) rfl rfl (by kernel_rfl) (by kernel_rfl) (by kernel_rfl) (by decide) (fun _ _ _ h => h) (Or.inl ⟨by rfl, fun w _ => ?_⟩) ?_; rotate_left; (go_simp; with_reducible rfl); simp only [Act.put, List.setIfInBounds_toArray, List.set_cons_zero, List.set_cons_succ]
    refine wpAnyK_pure 9 (v := ?_) (i := 1) (fuel := 8) rfl rfl (by kernel_rfl) (by kernel_rfl) (by kernel_rfl) (by decide) (fun _ _ _ h => h) (Or.inl ⟨by rfl, fun w _ => ?_⟩) ?_; rotate_left; (go_simp; with_reducible rfl); simp only [Act.put, List.setIfInBounds_toArray, List.set_cons_zero, List.set_cons_succ]
    refine wpAnyK_pure 10 (v := ?_) (i := 2) (fuel := 7) rfl rfl (by kernel_rfl) (by kernel_rfl) (by kernel_rfl) (by decide) (fun _ _ _ h => h) (Or.inl ⟨by rfl, fun w _ => ?_⟩) ?_; rotate_left; (go_simp; with_reducible rfl); simp only [Act.put, List.setIfInBounds_toArray, List.set_cons_zero, List.set_cons_succ]
    refine wpAnyK_load 11 (i := 3) (fuel := 6) rfl rfl (by kernel_rfl) (by kernel_rfl) (by kernel_rfl) (.inr (by decide)) (by decide) (fun _ _ _ h => h) rfl (fun w h => ex_loadv h _ _ rfl _ _ rfl) ?_; simp only [Act.put, List.setIfInBounds_toArray, List.set_cons_zero, List.set_cons_succ]
    refine wpAnyK_pure 12 (v := ?_) (i := 4) (fuel := 5) rfl rfl (by kernel_rfl) (by kernel_rfl) (by kernel_rfl) (by decide) (fun _ _ _ h => h) (Or.inl ⟨by rfl, fun w _ => ?_⟩) ?_; rotate_left; (go_simp; with_reducible rfl); simp only [Act.put, List.setIfInBounds_toArray, List.set_cons_zero, List.set_cons_succ]
    refine wpAnyK_pure 13 (v := ?_) (i := 5) (fuel := 4) rfl rfl (by kernel_rfl) (by kernel_rfl) (by kernel_rfl) (by decide) (fun _ _ _ h => h) (Or.inl ⟨by rfl, fun w _ => ?_⟩) ?_; rotate_left; (go_simp; with_reducible rfl); simp only [Act.put, List.setIfInBounds_toArray, List.set_cons_zero, List.set_cons_succ]
    refine wpAnyK_pure 14 (v := ?_) (i := 6) (fuel := 3) rfl rfl (by kernel_rfl) (by kernel_rfl) (by kernel_rfl) (by decide) (fun _ _ _ h => h) (Or.inl ⟨by rfl, fun w _ => ?_⟩) ?_; rotate_left; (go_simp; with_reducible rfl); simp only [Act.put, List.setIfInBounds_toArray, List.set_cons_zero, List.set_cons_succ]
    refine wpAnyK_load 15 (i := 7) (fuel := 2) rfl rfl (by kernel_rfl) (by kernel_rfl) (by kernel_rfl) (.inr (by decide)) (by decide) (fun _ _ _ h => h) rfl (fun w h => ex_loadv h _ _ rfl _ _ rfl) ?_; simp only [Act.put, List.setIfInBounds_toArray, List.set_cons_zero, List.set_cons_succ]
    refine wpAnyK_pure 16 (v := ?_) (i := 8) (fuel := 1) rfl rfl (by kernel_rfl) (by kernel_rfl) (by kernel_rfl) (by decide) (fun _ _ _ h => h) (Or.inl ⟨by rfl, fun w _ => ?_⟩) ?_; rotate_left; (go_simp; with_reducible rfl); simp only [Act.put, List.setIfInBounds_toArray, List.set_cons_zero, List.set_cons_succ]
    refine wpAnyK_pure 17 (v := ?_) (i := 9) (fuel := 0) rfl rfl (by kernel_rfl) (by kernel_rfl) (by kernel_rfl) (by decide) (fun _ _ _ h => h) (Or.inl ⟨by rfl, fun w _ => ?_⟩) ?_; rotate_left; (go_simp; with_reducible rfl); simp only [Act.put, List.setIfInBounds_toArray, List.set_cons_zero, List.set_cons_succ]
    refine wpAnyK_done (by kernel_rfl) ?_
    go_upto_region 2 with (fail)
    refine wp_region_K 10 (fun w' => St _ _ w' _) (by kernel_rfl) h.drew ?_; replace h := h.drew
    refine wpAnyK_pure 18 (v := ?_) (i := 0) (fuel := 10) rfl rfl (by kernel_rfl) (by kernel_rfl) (by kernel_rfl) (by decide) (fun _ _ _ h => h) (Or.inl ⟨by rfl, fun w _ => ?_⟩) ?_; rotate_left; (go_simp; with_reducible rfl); simp only [Act.put, List.setIfInBounds_toArray, List.set_cons_zero, List.set_cons_succ]
    refine wpAnyK_pure 19 (v := ?_) (i := 1) (fuel := 9) rfl rfl (by kernel_rfl) (by kernel_rfl) (by kernel_rfl) (by decide) (fun _ _ _ h => h) (Or.inl ⟨by rfl, fun w _ => ?_⟩) ?_; rotate_left; (go_simp; with_reducible rfl); simp only [Act.put, List.setIfInBounds_toArray, List.set_cons_zero, List.set_cons_succ]
    refine wpAnyK_pure 20 (v := ?_) (i := 2) (fuel := 8) rfl rfl (by kernel_rfl) (by kernel_rfl) (by kernel_rfl) (by decide) (fun _ _ _ h => h) (Or.inl ⟨by rfl, fun w _ => ?_⟩) ?_; rotate_left; (go_simp; with_reducible rfl); simp only [Act.put, List.setIfInBounds_toArray, List.set_cons_zero, List.set_cons_succ]
    refine wpAnyK_load 21 (i := 3) (fuel := 7) rfl rfl (by kernel_rfl) (by kernel_rfl) (by kernel_rfl) (.inl (by kernel_rfl)) (by decide) (fun _ _ _ h => h) rfl (fun w h => ex_loadv h _ _ rfl _ _ rfl) ?_; simp only [Act.put, List.setIfInBounds_toArray, List.set_cons_zero, List.set_cons_succ]
    refine wpAnyK_pure 22 (v := ?_) (i := 4) (fuel := 6) rfl rfl (by kernel_rfl) (by kernel_rfl) (by kernel_rfl) (by decide) (fun _ _ _ h => h) (Or.inl ⟨by rfl, fun w _ => ?_⟩) ?_; rotate_left; (go_simp; with_reducible rfl); simp only [Act.put, List.setIfInBounds_toArray, List.set_cons_zero, List.set_cons_succ]
    refine wpAnyK_pure 23 (v := ?_) (i := 5) (fuel := 5) rfl rfl (by kernel_rfl) (by kernel_rfl) (by kernel_rfl) (by decide) (fun _ _ _ h => h) (Or.inl ⟨by rfl, fun w _ => ?_⟩) ?_; rotate_left; (go_simp; with_reducible rfl); simp only [Act.put, List.setIfInBounds_toArray, List.set_cons_zero, List.set_cons_succ]
    refine wpAnyK_pure 24 (v := ?_) (i := 6) (fuel := 4) rfl rfl (by kernel_rfl) (by kernel_rfl) (by kernel_rfl) (by decide) (fun _ _ _ h => h) (Or.inl ⟨by rfl, fun w _ => ?_⟩) ?_; rotate_left; (go_simp; with_reducible rfl); simp only [Act.put, List.setIfInBounds_toArray, List.set_cons_zero, List.set_cons_succ]
    refine wpAnyK_load 25 (i := 7) (fuel := 3) rfl rfl (by kernel_rfl) (by kernel_rfl) (by kernel_rfl) (.inl (by kernel_rfl)) (by decide) (fun _ _ _ h => h) rfl (fun w h => ex_loadv h _ _ rfl _ _ rfl) ?_; simp only [Act.put, List.setIfInBounds_toArray, List.set_cons_zero, List.set_cons_succ]
    refine wpAnyK_pure 26 (v := ?_) (i := 8) (fuel := 2) rfl rfl (by kernel_rfl) (by kernel_rfl) (by kernel_rfl) (by decide) (fun _ _ _ h => h) (Or.inl ⟨by rfl, fun w _ => ?_⟩) ?_; rotate_left; (go_simp; with_reducible rfl); simp only [Act.put, List.setIfInBounds_toArray, List.set_cons_zero, List.set_cons_succ]
    refine wpAnyK_load 27 (i := 9) (fuel := 1) rfl rfl (by kernel_rfl) (by kernel_rfl) (by kernel_rfl) (.inl (by kernel_rfl)) (by decide) (fun _ _ _ h => h) rfl (fun w h => ex_load_at _ _ rfl b0 (off + sent * 2) rfl (fac f) rfl (hel (h.sl (some ⟨b0, off, none⟩) fates.length fc))) ?_; simp only [Act.put, List.setIfInBounds_toArray, List.set_cons_zero, List.set_cons_succ]
    refine wpAnyK_one (i := 10) (fuel := 0) rfl (by kernel_rfl) rfl (fun K hK => ?_)
    refine op_runs none rfl (ex_store h _ _ _ rfl _ _ rfl _ rfl) ?_; clear h; rintro _ w ⟨rfl, h⟩; refine hK.out _ _ (SJ.past (by kernel_rfl)) ?_; clear hK K
    try simp only [Act.put, List.setIfInBounds_toArray, List.set_cons_zero, List.set_cons_succ]
    refine wpAnyK_done (by kernel_rfl) ?_
    obtain ⟨fA, hfA⟩ : ∃ fA, (some ⟨b0, off, none⟩ : Option Addr) = fA := ⟨_, rfl⟩
    rw [hfA] at h
    -- TAIL1
    rcases hcase with ⟨hd, hD0⟩ | ⟨hd1, hd2, hd3⟩ | ⟨hd, hD0⟩
    · have HS := Lib.hid (show (sent : Int) = ((sent + D : Nat) : Int) by omega)
      have f7 : f.2 < 0 := hd
      have hwS : IntKind.i64.wrap (sent : Int) = (sent : Int) := by rw [IntKind.wrap_i64]; omega
      replace h : St S w0 _ (eBlk g 77 (c_tabulariumref18_Link (.slice fA fates.length fc) (.int .i64 (sent : Int)) (.slice wA wait.length wc)) :: eOwn 113 2 wA wait.length wc (wait.flatMap mgr) :: eSls (wait.map mgp) :: eBlk gf 102 (fac f) :: eSl fA fates.length fc 2 (fates.flatMap fac) :: F) := h.to
      have hS : (0 : Int) ≤ (sent : Int) ∧ (sent : Int) ≤ 2000000 := by omega
      obtain ⟨hS1, hS2⟩ := hS
      clear hD0
      go_wp2_with (first | (refine wl_reads rfl (ex_loadv h _ _ rfl _ _ rfl) ?_))
      go_loopw [6] (fun x wr => ∃ (ys : List Mg) (A : Option Addr) (c : Nat), x = .int .i64 (ys.length : Int) ∧ ys.length ≤ N ∧ Hid (ys.map mgb = List.replicate ys.length (b, sent + D)) ∧ St S w0 wr (eBlk g 77 (c_tabulariumref18_Link (.slice fA fates.length fc) (.int .i64 (sent : Int)) (.slice A (wait.length + ys.length) c)) :: eOwn 113 2 A (wait.length + ys.length) c ((wait ++ ys).flatMap mgr) :: eSls ((wait ++ ys).map mgp) :: eBlk gf 102 (fac f) :: eSl fA fates.length fc 2 (fates.flatMap fac) :: F)) (fun x _ => N - (intOf x).toNat)
      case atStart => exact ⟨[], wA, wc, rfl, Nat.zero_le _, Lib.hid rfl, by simpa using h⟩
      case round =>
        clear h
        obtain ⟨ys, A, c, rfl, hjN, Hys, h⟩ := hrel
        obtain ⟨j, hj⟩ : ∃ j, ys.length = j := ⟨_, rfl⟩
        have Hj := Lib.hid hj
        rw [hj] at h hjN ⊢
        clear hj
        by_cases hj : j < N
        · have f2 : (j : Int) < f.1 := by have := HNi.out; omega
          have f3 : (j : Int) < 3 := by omega
          go_upto_region 11 with (first | (refine wl_reads rfl (ex_loadv h _ _ rfl _ _ rfl) ?_))
          refine wp_region_K 15 (fun w' => St _ _ w' _) (by kernel_rfl) h.drew ?_; replace h := h.drew
          refine wpAnyK_pure 44 (v := ?_) (i := 0) (fuel := 18) rfl rfl (by kernel_rfl) (by kernel_rfl) (by kernel_rfl) (by decide) (fun _ _ _ h => h) (Or.inl ⟨by rfl, fun w _ => ?_⟩) ?_; rotate_left; (go_simp; with_reducible rfl); simp only [Act.put, List.setIfInBounds_toArray, List.set_cons_zero, List.set_cons_succ]
          refine wpAnyK_pure 45 (v := ?_) (i := 1) (fuel := 17) rfl rfl (by kernel_rfl) (by kernel_rfl) (by kernel_rfl) (by decide) (fun _ _ _ h => h) (Or.inl ⟨by rfl, fun w _ => ?_⟩) ?_; rotate_left; (go_simp; with_reducible rfl); simp only [Act.put, List.setIfInBounds_toArray, List.set_cons_zero, List.set_cons_succ]
          refine wpAnyK_pure 46 (v := ?_) (i := 2) (fuel := 16) rfl rfl (by kernel_rfl) (by kernel_rfl) (by kernel_rfl) (by decide) (fun _ _ _ h => h) (Or.inl ⟨by rfl, fun w _ => ?_⟩) ?_; rotate_left; (go_simp; with_reducible rfl); simp only [Act.put, List.setIfInBounds_toArray, List.set_cons_zero, List.set_cons_succ]
          refine wpAnyK_pure 47 (v := ?_) (i := 3) (fuel := 15) rfl rfl (by kernel_rfl) (by kernel_rfl) (by kernel_rfl) (by decide) (fun _ _ _ h => h) (Or.inl ⟨by rfl, fun w _ => ?_⟩) ?_; rotate_left; (go_simp; with_reducible rfl); simp only [Act.put, List.setIfInBounds_toArray, List.set_cons_zero, List.set_cons_succ]
          refine wpAnyK_load 48 (i := 4) (fuel := 14) rfl rfl (by kernel_rfl) (by kernel_rfl) (by kernel_rfl) (.inl (by kernel_rfl)) (by decide) (fun _ _ _ h => h) rfl (fun w h => ex_loadv h _ _ rfl _ _ rfl) ?_; simp only [Act.put, List.setIfInBounds_toArray, List.set_cons_zero, List.set_cons_succ]
          refine wpAnyK_pure 49 (v := ?_) (i := 5) (fuel := 13) rfl rfl (by kernel_rfl) (by kernel_rfl) (by kernel_rfl) (by decide) (fun _ _ _ h => h) (Or.inl ⟨by rfl, fun w _ => ?_⟩) ?_; rotate_left; (go_simp; with_reducible rfl); simp only [Act.put, List.setIfInBounds_toArray, List.set_cons_zero, List.set_cons_succ]
          refine wpAnyK_pure 51 (v := ?_) (i := 7) (fuel := 12) rfl rfl (by kernel_rfl) (by kernel_rfl) (by kernel_rfl) (by decide) (fun _ _ _ h => h) (Or.inl ⟨by rfl, fun w _ => ?_⟩) ?_; rotate_left; (go_simp; with_reducible rfl); simp only [Act.put, List.setIfInBounds_toArray, List.set_cons_zero, List.set_cons_succ]
          refine wpAnyK_pure 52 (v := ?_) (i := 8) (fuel := 11) rfl rfl (by kernel_rfl) (by kernel_rfl) (by kernel_rfl) (by decide) (fun _ _ _ h => h) (Or.inl ⟨by rfl, fun w _ => ?_⟩) ?_; rotate_left; (go_simp; with_reducible rfl); simp only [Act.put, List.setIfInBounds_toArray, List.set_cons_zero, List.set_cons_succ]
          refine wpAnyK_pure 53 (v := ?_) (i := 9) (fuel := 10) rfl rfl (by kernel_rfl) (by kernel_rfl) (by kernel_rfl) (by decide) (fun _ _ _ h => h) (Or.inl ⟨by rfl, fun w _ => ?_⟩) ?_; rotate_left; (go_simp; with_reducible rfl); simp only [Act.put, List.setIfInBounds_toArray, List.set_cons_zero, List.set_cons_succ]
          refine wpAnyK_load 54 (i := 10) (fuel := 9) rfl rfl (by kernel_rfl) (by kernel_rfl) (by kernel_rfl) (.inl (by kernel_rfl)) (by decide) (fun _ _ _ h => h) rfl (fun w h => ex_loadv h _ _ rfl _ _ rfl) ?_; simp only [Act.put, List.setIfInBounds_toArray, List.set_cons_zero, List.set_cons_succ]
          refine wpAnyK_pure 55 (v := ?_) (i := 11) (fuel := 8) rfl rfl (by kernel_rfl) (by kernel_rfl) (by kernel_rfl) (by decide) (fun _ _ _ h => h) (Or.inl ⟨by rfl, fun w _ => ?_⟩) ?_; rotate_left; (go_simp; with_reducible rfl); simp only [Act.put, List.setIfInBounds_toArray, List.set_cons_zero, List.set_cons_succ]
          refine wpAnyK_pure 56 (v := (.int .i64 (sent : Int))) (i := 12) (fuel := 7) rfl rfl (by kernel_rfl) (by kernel_rfl) (by kernel_rfl) (by decide) (fun _ _ _ h => h) (Or.inl ⟨by rfl, fun w _ => (by go_simp)⟩) ?_; simp only [Act.put, List.setIfInBounds_toArray, List.set_cons_zero, List.set_cons_succ]
          refine wpAnyK_one (i := 6) (fuel := 6) rfl (by kernel_rfl) rfl (fun K hK => ?_)
          refine op_runs (some 50) rfl (ex_append_nil h _ _ _ rfl rfl B b.length d rfl (h.sl B b.length d) (u8s_one _) (by simp [maxLen]; omega) (by omega)) ?_; clear h; rintro _ w ⟨A1, c1, rfl, h⟩; refine hK.out _ _ (fun _ => h.to) ?_; clear hK K
          try simp only [Act.put, List.setIfInBounds_toArray, List.set_cons_zero, List.set_cons_succ]
          refine wpAnyK_load 57 (i := 13) (fuel := 5) rfl rfl (by kernel_rfl) (by kernel_rfl) (by kernel_rfl) (.inl (by kernel_rfl)) (by decide) (fun _ _ _ h => h) rfl (fun w h => ex_lit _ _ rfl [(0, .slice A1 b.length c1), (1, .int .i64 (sent : Int))] rfl) ?_; simp only [Act.put, List.setIfInBounds_toArray, List.set_cons_zero, List.set_cons_succ]
          refine wpAnyK_one (i := 14) (fuel := 4) rfl (by kernel_rfl) rfl (fun K hK => ?_)
          refine op_runs (some 58) rfl (ex_slice1 h _ _ rfl (c_tabulariumref18_message (.slice A1 b.length c1) (.int .i64 (sent : Int))) rfl) ?_; clear h; rintro _ w ⟨gx, rfl, h⟩; refine hK.out _ _ (fun _ => h.to) ?_; clear hK K
          try simp only [Act.put, List.setIfInBounds_toArray, List.set_cons_zero, List.set_cons_succ]
          refine wpAnyK_one (i := 15) (fuel := 3) rfl (by kernel_rfl) rfl (fun K hK => ?_)
          have hrm : Row (c_tabulariumref18_message (.slice A1 b.length c1) (.int .i64 (sent : Int))) 2 := c_tabulariumref18_message.row _ _; refine op_runs (some 59) rfl (ex_append h _ _ _ rfl A rfl (some ⟨gx, 0, none⟩) 1 1 rfl (h.slBox gx) hrm.one (by simp [maxLen]; omega) (by omega)) ?_; clear h; rintro _ w ⟨A2, c2, rfl, h⟩; refine hK.out _ _ (SJ.past (by kernel_rfl)) ?_; clear hK K
          try simp only [Act.put, List.setIfInBounds_toArray, List.set_cons_zero, List.set_cons_succ]
          refine wpAnyK_pure 60 (v := ?_) (i := 16) (fuel := 2) rfl rfl (by kernel_rfl) (by kernel_rfl) (by kernel_rfl) (by decide) (fun _ _ _ h => h) (Or.inl ⟨by rfl, fun w _ => ?_⟩) ?_; rotate_left; (go_simp; with_reducible rfl); simp only [Act.put, List.setIfInBounds_toArray, List.set_cons_zero, List.set_cons_succ]
          refine wpAnyK_pure 61 (v := ?_) (i := 17) (fuel := 1) rfl rfl (by kernel_rfl) (by kernel_rfl) (by kernel_rfl) (by decide) (fun _ _ _ h => h) (Or.inl ⟨by rfl, fun w _ => ?_⟩) ?_; rotate_left; (go_simp; with_reducible rfl); simp only [Act.put, List.setIfInBounds_toArray, List.set_cons_zero, List.set_cons_succ]
          refine wpAnyK_one (i := 18) (fuel := 0) rfl (by kernel_rfl) rfl (fun K hK => ?_)
          refine op_runs none rfl (ex_store1s h _ _ _ rfl g 2 rfl _ _ _ rfl) ?_; clear h; rintro _ w ⟨rfl, h⟩; refine hK.out _ _ (SJ.past (by kernel_rfl)) ?_; clear hK K
          try simp only [Act.put, List.setIfInBounds_toArray, List.set_cons_zero, List.set_cons_succ]
          refine wpAnyK_done (by kernel_rfl) ?_
          go_wp2
          obtain ⟨Y, hY⟩ : ∃ Y : Mg, Y = ⟨b, sent + D, A1, c1⟩ := ⟨_, rfl⟩
          have hl : (ys ++ [Y]).length = j + 1 := by simp [Hj.out]
          have hfm : (wait ++ (ys ++ [Y])).flatMap mgr = (wait ++ ys).flatMap mgr ++ c_tabulariumref18_message (.slice A1 b.length c1) (.int .i64 (sent : Int)) := by
            rw [HS.out, hY]
            simp [mgr]
          have h2 : St S w0 w (eSls ((wait ++ ys).map mgp) :: eSl A1 b.length c1 1 (u8s b) :: eBlk g 77 (c_tabulariumref18_Link (.slice fA fates.length fc) (.int .i64 (sent : Int)) (.slice A2 (wait.length + j + 1) c2)) :: eOwn 113 2 A2 (wait.length + j + 1) c2 ((wait ++ ys).flatMap mgr ++ c_tabulariumref18_message (.slice A1 b.length c1) (.int .i64 (sent : Int))) :: eBlk gf 102 (fac f) :: eSl fA fates.length fc 2 (fates.flatMap fac) :: F) := (h.release A1 (by omega)).to
          have h3 := h2.poolAdd
          rw [← hfm] at h3
          have hpm : (wait ++ ys).map mgp ++ [⟨A1, b.length, c1, 1, u8s b⟩] = (wait ++ (ys ++ [Y])).map mgp := by rw [hY]; simp [mgp]
          rw [hpm] at h3
          refine ⟨⟨ys ++ [Y], A2, c2, by rw [hl]; push_cast; rfl, by omega, Lib.hid (by rw [hl, List.map_append, Hys.out, Hj.out, List.replicate_succ', hY]; rfl), ?_⟩, ?_⟩
          · rw [hl]
            exact h3.to
          · simp only [intOf]
            omega
        · have hjn : j = N := by omega
          subst hjn
          by_cases hT : (j : Int) < f.1
          · have f3 : ¬ (j : Int) < 3 := by have := HNi.out; omega
            go_wp2_with (first | (refine wl_runs rfl (ex_store1i h _ _ _ rfl _ _ rfl _ _ rfl) ?_; clear h; rintro _ w ⟨rfl, h⟩; try dsimp only [Act.put]) | (refine wl_reads rfl (ex_loadv h _ _ rfl _ _ rfl) ?_))
            go_end0
            refine ⟨rfl, ⟨fA, fc, A, c⟩, ys, by rw [Hys.out, Hj.out], ?_⟩
            have hwl2 : (wait ++ ys).length = wait.length + j := by rw [List.length_append, Hj.out]
            have e : ((sent + 1 : Nat) : Int) = (sent : Int) + 1 := by omega
            exact St.rkShut (g := g) (k := ⟨fA, fc, A, c⟩) (s := ⟨fates, sent + 1, wait ++ ys⟩) (by simp only [RKP, rkc, e, hwl2]; exact h.to)
          · go_wp2_with (first | (refine wl_runs rfl (ex_store1i h _ _ _ rfl _ _ rfl _ _ rfl) ?_; clear h; rintro _ w ⟨rfl, h⟩; try dsimp only [Act.put]) | (refine wl_reads rfl (ex_loadv h _ _ rfl _ _ rfl) ?_))
            go_end0
            refine ⟨rfl, ⟨fA, fc, A, c⟩, ys, by rw [Hys.out, Hj.out], ?_⟩
            have hwl2 : (wait ++ ys).length = wait.length + j := by rw [List.length_append, Hj.out]
            have e : ((sent + 1 : Nat) : Int) = (sent : Int) + 1 := by omega
            exact St.rkShut (g := g) (k := ⟨fA, fc, A, c⟩) (s := ⟨fates, sent + 1, wait ++ ys⟩) (by simp only [RKP, rkc, e, hwl2]; exact h.to)
    · have HS := Lib.hid (show ((sent : Int) + f.2) = ((sent + D : Nat) : Int) by omega)
      have f7 : ¬ f.2 < 0 := by omega
      have f8 : ¬ 1000 < f.2 := by omega
      have hwS : IntKind.i64.wrap ((sent : Int) + f.2) = ((sent : Int) + f.2) := by rw [IntKind.wrap_i64]; omega
      replace h : St S w0 _ (eBlk g 77 (c_tabulariumref18_Link (.slice fA fates.length fc) (.int .i64 (sent : Int)) (.slice wA wait.length wc)) :: eOwn 113 2 wA wait.length wc (wait.flatMap mgr) :: eSls (wait.map mgp) :: eBlk gf 102 (fac f) :: eSl fA fates.length fc 2 (fates.flatMap fac) :: F) := h.to
      have hS : (0 : Int) ≤ ((sent : Int) + f.2) ∧ ((sent : Int) + f.2) ≤ 2000000 := by omega
      obtain ⟨hS1, hS2⟩ := hS
      clear hd3
      go_wp2_with (first | (refine wl_reads rfl (ex_loadv h _ _ rfl _ _ rfl) ?_))
      go_loopw [6] (fun x wr => ∃ (ys : List Mg) (A : Option Addr) (c : Nat), x = .int .i64 (ys.length : Int) ∧ ys.length ≤ N ∧ Hid (ys.map mgb = List.replicate ys.length (b, sent + D)) ∧ St S w0 wr (eBlk g 77 (c_tabulariumref18_Link (.slice fA fates.length fc) (.int .i64 (sent : Int)) (.slice A (wait.length + ys.length) c)) :: eOwn 113 2 A (wait.length + ys.length) c ((wait ++ ys).flatMap mgr) :: eSls ((wait ++ ys).map mgp) :: eBlk gf 102 (fac f) :: eSl fA fates.length fc 2 (fates.flatMap fac) :: F)) (fun x _ => N - (intOf x).toNat)
      case atStart => exact ⟨[], wA, wc, rfl, Nat.zero_le _, Lib.hid rfl, by simpa using h⟩
      case round =>
        clear h
        obtain ⟨ys, A, c, rfl, hjN, Hys, h⟩ := hrel
        obtain ⟨j, hj⟩ : ∃ j, ys.length = j := ⟨_, rfl⟩
        have Hj := Lib.hid hj
        rw [hj] at h hjN ⊢
        clear hj
        by_cases hj : j < N
        · have f2 : (j : Int) < f.1 := by have := HNi.out; omega
          have f3 : (j : Int) < 3 := by omega
          go_upto_region 11 with (first | (refine wl_reads rfl (ex_loadv h _ _ rfl _ _ rfl) ?_))
          refine wp_region_K 15 (fun w' => St _ _ w' _) (by kernel_rfl) h.drew ?_; replace h := h.drew
          refine wpAnyK_pure 44 (v := ?_) (i := 0) (fuel := 18) rfl rfl (by kernel_rfl) (by kernel_rfl) (by kernel_rfl) (by decide) (fun _ _ _ h => h) (Or.inl ⟨by rfl, fun w _ => ?_⟩) ?_; rotate_left; (go_simp; with_reducible rfl); simp only [Act.put, List.setIfInBounds_toArray, List.set_cons_zero, List.set_cons_succ]
          refine wpAnyK_pure 45 (v := ?_) (i := 1) (fuel := 17) rfl rfl (by kernel_rfl) (by kernel_rfl) (by kernel_rfl) (by decide) (fun _ _ _ h => h) (Or.inl ⟨by rfl, fun w _ => ?_⟩) ?_; rotate_left; (go_simp; with_reducible rfl); simp only [Act.put, List.setIfInBounds_toArray, List.set_cons_zero, List.set_cons_succ]
          refine wpAnyK_pure 46 (v := ?_) (i := 2) (fuel := 16) rfl rfl (by kernel_rfl) (by kernel_rfl) (by kernel_rfl) (by decide) (fun _ _ _ h => h) (Or.inl ⟨by rfl, fun w _ => ?_⟩) ?_; rotate_left; (go_simp; with_reducible rfl); simp only [Act.put, List.setIfInBounds_toArray, List.set_cons_zero, List.set_cons_succ]
          refine wpAnyK_pure 47 (v := ?_) (i := 3) (fuel := 15) rfl rfl (by kernel_rfl) (by kernel_rfl) (by kernel_rfl) (by decide) (fun _ _ _ h => h) (Or.inl ⟨by rfl, fun w _ => ?_⟩) ?_; rotate_left; (go_simp; with_reducible rfl); simp only [Act.put, List.setIfInBounds_toArray, List.set_cons_zero, List.set_cons_succ]
          refine wpAnyK_load 48 (i := 4) (fuel := 14) rfl rfl (by kernel_rfl) (by kernel_rfl) (by kernel_rfl) (.inl (by kernel_rfl)) (by decide) (fun _ _ _ h => h) rfl (fun w h => ex_loadv h _ _ rfl _ _ rfl) ?_; simp only [Act.put, List.setIfInBounds_toArray, List.set_cons_zero, List.set_cons_succ]
          refine wpAnyK_pure 49 (v := ?_) (i := 5) (fuel := 13) rfl rfl (by kernel_rfl) (by kernel_rfl) (by kernel_rfl) (by decide) (fun _ _ _ h => h) (Or.inl ⟨by rfl, fun w _ => ?_⟩) ?_; rotate_left; (go_simp; with_reducible rfl); simp only [Act.put, List.setIfInBounds_toArray, List.set_cons_zero, List.set_cons_succ]
          refine wpAnyK_pure 51 (v := ?_) (i := 7) (fuel := 12) rfl rfl (by kernel_rfl) (by kernel_rfl) (by kernel_rfl) (by decide) (fun _ _ _ h => h) (Or.inl ⟨by rfl, fun w _ => ?_⟩) ?_; rotate_left; (go_simp; with_reducible rfl); simp only [Act.put, List.setIfInBounds_toArray, List.set_cons_zero, List.set_cons_succ]
          refine wpAnyK_pure 52 (v := ?_) (i := 8) (fuel := 11) rfl rfl (by kernel_rfl) (by kernel_rfl) (by kernel_rfl) (by decide) (fun _ _ _ h => h) (Or.inl ⟨by rfl, fun w _ => ?_⟩) ?_; rotate_left; (go_simp; with_reducible rfl); simp only [Act.put, List.setIfInBounds_toArray, List.set_cons_zero, List.set_cons_succ]
          refine wpAnyK_pure 53 (v := ?_) (i := 9) (fuel := 10) rfl rfl (by kernel_rfl) (by kernel_rfl) (by kernel_rfl) (by decide) (fun _ _ _ h => h) (Or.inl ⟨by rfl, fun w _ => ?_⟩) ?_; rotate_left; (go_simp; with_reducible rfl); simp only [Act.put, List.setIfInBounds_toArray, List.set_cons_zero, List.set_cons_succ]
          refine wpAnyK_load 54 (i := 10) (fuel := 9) rfl rfl (by kernel_rfl) (by kernel_rfl) (by kernel_rfl) (.inl (by kernel_rfl)) (by decide) (fun _ _ _ h => h) rfl (fun w h => ex_loadv h _ _ rfl _ _ rfl) ?_; simp only [Act.put, List.setIfInBounds_toArray, List.set_cons_zero, List.set_cons_succ]
          refine wpAnyK_pure 55 (v := ?_) (i := 11) (fuel := 8) rfl rfl (by kernel_rfl) (by kernel_rfl) (by kernel_rfl) (by decide) (fun _ _ _ h => h) (Or.inl ⟨by rfl, fun w _ => ?_⟩) ?_; rotate_left; (go_simp; with_reducible rfl); simp only [Act.put, List.setIfInBounds_toArray, List.set_cons_zero, List.set_cons_succ]
          refine wpAnyK_pure 56 (v := (.int .i64 ((sent : Int) + f.2))) (i := 12) (fuel := 7) rfl rfl (by kernel_rfl) (by kernel_rfl) (by kernel_rfl) (by decide) (fun _ _ _ h => h) (Or.inl ⟨by rfl, fun w _ => (by go_simp)⟩) ?_; simp only [Act.put, List.setIfInBounds_toArray, List.set_cons_zero, List.set_cons_succ]
          refine wpAnyK_one (i := 6) (fuel := 6) rfl (by kernel_rfl) rfl (fun K hK => ?_)
          refine op_runs (some 50) rfl (ex_append_nil h _ _ _ rfl rfl B b.length d rfl (h.sl B b.length d) (u8s_one _) (by simp [maxLen]; omega) (by omega)) ?_; clear h; rintro _ w ⟨A1, c1, rfl, h⟩; refine hK.out _ _ (fun _ => h.to) ?_; clear hK K
          try simp only [Act.put, List.setIfInBounds_toArray, List.set_cons_zero, List.set_cons_succ]
          refine wpAnyK_load 57 (i := 13) (fuel := 5) rfl rfl (by kernel_rfl) (by kernel_rfl) (by kernel_rfl) (.inl (by kernel_rfl)) (by decide) (fun _ _ _ h => h) rfl (fun w h => ex_lit _ _ rfl [(0, .slice A1 b.length c1), (1, .int .i64 ((sent : Int) + f.2))] rfl) ?_; simp only [Act.put, List.setIfInBounds_toArray, List.set_cons_zero, List.set_cons_succ]
          refine wpAnyK_one (i := 14) (fuel := 4) rfl (by kernel_rfl) rfl (fun K hK => ?_)
          refine op_runs (some 58) rfl (ex_slice1 h _ _ rfl (c_tabulariumref18_message (.slice A1 b.length c1) (.int .i64 ((sent : Int) + f.2))) rfl) ?_; clear h; rintro _ w ⟨gx, rfl, h⟩; refine hK.out _ _ (fun _ => h.to) ?_; clear hK K
          try simp only [Act.put, List.setIfInBounds_toArray, List.set_cons_zero, List.set_cons_succ]
          refine wpAnyK_one (i := 15) (fuel := 3) rfl (by kernel_rfl) rfl (fun K hK => ?_)
          have hrm : Row (c_tabulariumref18_message (.slice A1 b.length c1) (.int .i64 ((sent : Int) + f.2))) 2 := c_tabulariumref18_message.row _ _; refine op_runs (some 59) rfl (ex_append h _ _ _ rfl A rfl (some ⟨gx, 0, none⟩) 1 1 rfl (h.slBox gx) hrm.one (by simp [maxLen]; omega) (by omega)) ?_; clear h; rintro _ w ⟨A2, c2, rfl, h⟩; refine hK.out _ _ (SJ.past (by kernel_rfl)) ?_; clear hK K
          try simp only [Act.put, List.setIfInBounds_toArray, List.set_cons_zero, List.set_cons_succ]
          refine wpAnyK_pure 60 (v := ?_) (i := 16) (fuel := 2) rfl rfl (by kernel_rfl) (by kernel_rfl) (by kernel_rfl) (by decide) (fun _ _ _ h => h) (Or.inl ⟨by rfl, fun w _ => ?_⟩) ?_; rotate_left; (go_simp; with_reducible rfl); simp only [Act.put, List.setIfInBounds_toArray, List.set_cons_zero, List.set_cons_succ]
          refine wpAnyK_pure 61 (v := ?_) (i := 17) (fuel := 1) rfl rfl (by kernel_rfl) (by kernel_rfl) (by kernel_rfl) (by decide) (fun _ _ _ h => h) (Or.inl ⟨by rfl, fun w _ => ?_⟩) ?_; rotate_left; (go_simp; with_reducible rfl); simp only [Act.put, List.setIfInBounds_toArray, List.set_cons_zero, List.set_cons_succ]
          refine wpAnyK_one (i := 18) (fuel := 0) rfl (by kernel_rfl) rfl (fun K hK => ?_)
          refine op_runs none rfl (ex_store1s h _ _ _ rfl g 2 rfl _ _ _ rfl) ?_; clear h; rintro _ w ⟨rfl, h⟩; refine hK.out _ _ (SJ.past (by kernel_rfl)) ?_; clear hK K
          try simp only [Act.put, List.setIfInBounds_toArray, List.set_cons_zero, List.set_cons_succ]
          refine wpAnyK_done (by kernel_rfl) ?_
          go_wp2
          obtain ⟨Y, hY⟩ : ∃ Y : Mg, Y = ⟨b, sent + D, A1, c1⟩ := ⟨_, rfl⟩
          have hl : (ys ++ [Y]).length = j + 1 := by simp [Hj.out]
          have hfm : (wait ++ (ys ++ [Y])).flatMap mgr = (wait ++ ys).flatMap mgr ++ c_tabulariumref18_message (.slice A1 b.length c1) (.int .i64 ((sent : Int) + f.2)) := by
            rw [HS.out, hY]
            simp [mgr]
          have h2 : St S w0 w (eSls ((wait ++ ys).map mgp) :: eSl A1 b.length c1 1 (u8s b) :: eBlk g 77 (c_tabulariumref18_Link (.slice fA fates.length fc) (.int .i64 (sent : Int)) (.slice A2 (wait.length + j + 1) c2)) :: eOwn 113 2 A2 (wait.length + j + 1) c2 ((wait ++ ys).flatMap mgr ++ c_tabulariumref18_message (.slice A1 b.length c1) (.int .i64 ((sent : Int) + f.2))) :: eBlk gf 102 (fac f) :: eSl fA fates.length fc 2 (fates.flatMap fac) :: F) := (h.release A1 (by omega)).to
          have h3 := h2.poolAdd
          rw [← hfm] at h3
          have hpm : (wait ++ ys).map mgp ++ [⟨A1, b.length, c1, 1, u8s b⟩] = (wait ++ (ys ++ [Y])).map mgp := by rw [hY]; simp [mgp]
          rw [hpm] at h3
          refine ⟨⟨ys ++ [Y], A2, c2, by rw [hl]; push_cast; rfl, by omega, Lib.hid (by rw [hl, List.map_append, Hys.out, Hj.out, List.replicate_succ', hY]; rfl), ?_⟩, ?_⟩
          · rw [hl]
            exact h3.to
          · simp only [intOf]
            omega
        · have hjn : j = N := by omega
          subst hjn
          by_cases hT : (j : Int) < f.1
          · have f3 : ¬ (j : Int) < 3 := by have := HNi.out; omega
            go_wp2_with (first | (refine wl_runs rfl (ex_store1i h _ _ _ rfl _ _ rfl _ _ rfl) ?_; clear h; rintro _ w ⟨rfl, h⟩; try dsimp only [Act.put]) | (refine wl_reads rfl (ex_loadv h _ _ rfl _ _ rfl) ?_))
            go_end0
            refine ⟨rfl, ⟨fA, fc, A, c⟩, ys, by rw [Hys.out, Hj.out], ?_⟩
            have hwl2 : (wait ++ ys).length = wait.length + j := by rw [List.length_append, Hj.out]
            have e : ((sent + 1 : Nat) : Int) = (sent : Int) + 1 := by omega
            exact St.rkShut (g := g) (k := ⟨fA, fc, A, c⟩) (s := ⟨fates, sent + 1, wait ++ ys⟩) (by simp only [RKP, rkc, e, hwl2]; exact h.to)
          · go_wp2_with (first | (refine wl_runs rfl (ex_store1i h _ _ _ rfl _ _ rfl _ _ rfl) ?_; clear h; rintro _ w ⟨rfl, h⟩; try dsimp only [Act.put]) | (refine wl_reads rfl (ex_loadv h _ _ rfl _ _ rfl) ?_))
            go_end0
            refine ⟨rfl, ⟨fA, fc, A, c⟩, ys, by rw [Hys.out, Hj.out], ?_⟩
            have hwl2 : (wait ++ ys).length = wait.length + j := by rw [List.length_append, Hj.out]
            have e : ((sent + 1 : Nat) : Int) = (sent : Int) + 1 := by omega
            exact St.rkShut (g := g) (k := ⟨fA, fc, A, c⟩) (s := ⟨fates, sent + 1, wait ++ ys⟩) (by simp only [RKP, rkc, e, hwl2]; exact h.to)
    · have HS := Lib.hid (show ((sent : Int) + 1000) = ((sent + D : Nat) : Int) by omega)
      have f7 : ¬ f.2 < 0 := by omega
      have f8 : 1000 < f.2 := hd
      have hwS : IntKind.i64.wrap ((sent : Int) + 1000) = ((sent : Int) + 1000) := by rw [IntKind.wrap_i64]; omega
      replace h : St S w0 _ (eBlk g 77 (c_tabulariumref18_Link (.slice fA fates.length fc) (.int .i64 (sent : Int)) (.slice wA wait.length wc)) :: eOwn 113 2 wA wait.length wc (wait.flatMap mgr) :: eSls (wait.map mgp) :: eBlk gf 102 (fac f) :: eSl fA fates.length fc 2 (fates.flatMap fac) :: F) := h.to
      have hS : (0 : Int) ≤ ((sent : Int) + 1000) ∧ ((sent : Int) + 1000) ≤ 2000000 := by omega
      obtain ⟨hS1, hS2⟩ := hS
      clear hD0
      go_wp2_with (first | (refine wl_reads rfl (ex_loadv h _ _ rfl _ _ rfl) ?_))
      go_loopw [6] (fun x wr => ∃ (ys : List Mg) (A : Option Addr) (c : Nat), x = .int .i64 (ys.length : Int) ∧ ys.length ≤ N ∧ Hid (ys.map mgb = List.replicate ys.length (b, sent + D)) ∧ St S w0 wr (eBlk g 77 (c_tabulariumref18_Link (.slice fA fates.length fc) (.int .i64 (sent : Int)) (.slice A (wait.length + ys.length) c)) :: eOwn 113 2 A (wait.length + ys.length) c ((wait ++ ys).flatMap mgr) :: eSls ((wait ++ ys).map mgp) :: eBlk gf 102 (fac f) :: eSl fA fates.length fc 2 (fates.flatMap fac) :: F)) (fun x _ => N - (intOf x).toNat)
      case atStart => exact ⟨[], wA, wc, rfl, Nat.zero_le _, Lib.hid rfl, by simpa using h⟩
      case round =>
        clear h
        obtain ⟨ys, A, c, rfl, hjN, Hys, h⟩ := hrel
        obtain ⟨j, hj⟩ : ∃ j, ys.length = j := ⟨_, rfl⟩
        have Hj := Lib.hid hj
        rw [hj] at h hjN ⊢
        clear hj
        by_cases hj : j < N
        · have f2 : (j : Int) < f.1 := by have := HNi.out; omega
          have f3 : (j : Int) < 3 := by omega
          go_upto_region 11 with (first | (refine wl_reads rfl (ex_loadv h _ _ rfl _ _ rfl) ?_))
          refine wp_region_K 15 (fun w' => St _ _ w' _) (by kernel_rfl) h.drew ?_; replace h := h.drew
          refine wpAnyK_pure 44 (v := ?_) (i := 0) (fuel := 18) rfl rfl (by kernel_rfl) (by kernel_rfl) (by kernel_rfl) (by decide) (fun _ _ _ h => h) (Or.inl ⟨by rfl, fun w _ => ?_⟩) ?_; rotate_left; (go_simp; with_reducible rfl); simp only [Act.put, List.setIfInBounds_toArray, List.set_cons_zero, List.set_cons_succ]
          refine wpAnyK_pure 45 (v := ?_) (i := 1) (fuel := 17) rfl rfl (by kernel_rfl) (by kernel_rfl) (by kernel_rfl) (by decide) (fun _ _ _ h => h) (Or.inl ⟨by rfl, fun w _ => ?_⟩) ?_; rotate_left; (go_simp; with_reducible rfl); simp only [Act.put, List.setIfInBounds_toArray, List.set_cons_zero, List.set_cons_succ]
          refine wpAnyK_pure 46 (v := ?_) (i := 2) (fuel := 16) rfl rfl (by kernel_rfl) (by kernel_rfl) (by kernel_rfl) (by decide) (fun _ _ _ h => h) (Or.inl ⟨by rfl, fun w _ => ?_⟩) ?_; rotate_left; (go_simp; with_reducible rfl); simp only [Act.put, List.setIfInBounds_toArray, List.set_cons_zero, List.set_cons_succ]
          refine wpAnyK_pure 47 (v := ?_) (i := 3) (fuel := 15) rfl rfl (by kernel_rfl) (by kernel_rfl) (by kernel_rfl) (by decide) (fun _ _ _ h => h) (Or.inl ⟨by rfl, fun w _ => ?_⟩) ?_; rotate_left; (go_simp; with_reducible rfl); simp only [Act.put, List.setIfInBounds_toArray, List.set_cons_zero, List.set_cons_succ]
          refine wpAnyK_load 48 (i := 4) (fuel := 14) rfl rfl (by kernel_rfl) (by kernel_rfl) (by kernel_rfl) (.inl (by kernel_rfl)) (by decide) (fun _ _ _ h => h) rfl (fun w h => ex_loadv h _ _ rfl _ _ rfl) ?_; simp only [Act.put, List.setIfInBounds_toArray, List.set_cons_zero, List.set_cons_succ]
          refine wpAnyK_pure 49 (v := ?_) (i := 5) (fuel := 13) rfl rfl (by kernel_rfl) (by kernel_rfl) (by kernel_rfl) (by decide) (fun _ _ _ h => h) (Or.inl ⟨by rfl, fun w _ => ?_⟩) ?_; rotate_left; (go_simp; with_reducible rfl); simp only [Act.put, List.setIfInBounds_toArray, List.set_cons_zero, List.set_cons_succ]
          refine wpAnyK_pure 51 (v := ?_) (i := 7) (fuel := 12) rfl rfl (by kernel_rfl) (by kernel_rfl) (by kernel_rfl) (by decide) (fun _ _ _ h => h) (Or.inl ⟨by rfl, fun w _ => ?_⟩) ?_; rotate_left; (go_simp; with_reducible rfl); simp only [Act.put, List.setIfInBounds_toArray, List.set_cons_zero, List.set_cons_succ]
          refine wpAnyK_pure 52 (v := ?_) (i := 8) (fuel := 11) rfl rfl (by kernel_rfl) (by kernel_rfl) (by kernel_rfl) (by decide) (fun _ _ _ h => h) (Or.inl ⟨by rfl, fun w _ => ?_⟩) ?_; rotate_left; (go_simp; with_reducible rfl); simp only [Act.put, List.setIfInBounds_toArray, List.set_cons_zero, List.set_cons_succ]
          refine wpAnyK_pure 53 (v := ?_) (i := 9) (fuel := 10) rfl rfl (by kernel_rfl) (by kernel_rfl) (by kernel_rfl) (by decide) (fun _ _ _ h => h) (Or.inl ⟨by rfl, fun w _ => ?_⟩) ?_; rotate_left; (go_simp; with_reducible rfl); simp only [Act.put, List.setIfInBounds_toArray, List.set_cons_zero, List.set_cons_succ]
          refine wpAnyK_load 54 (i := 10) (fuel := 9) rfl rfl (by kernel_rfl) (by kernel_rfl) (by kernel_rfl) (.inl (by kernel_rfl)) (by decide) (fun _ _ _ h => h) rfl (fun w h => ex_loadv h _ _ rfl _ _ rfl) ?_; simp only [Act.put, List.setIfInBounds_toArray, List.set_cons_zero, List.set_cons_succ]
          refine wpAnyK_pure 55 (v := ?_) (i := 11) (fuel := 8) rfl rfl (by kernel_rfl) (by kernel_rfl) (by kernel_rfl) (by decide) (fun _ _ _ h => h) (Or.inl ⟨by rfl, fun w _ => ?_⟩) ?_; rotate_left; (go_simp; with_reducible rfl); simp only [Act.put, List.setIfInBounds_toArray, List.set_cons_zero, List.set_cons_succ]
          refine wpAnyK_pure 56 (v := (.int .i64 ((sent : Int) + 1000))) (i := 12) (fuel := 7) rfl rfl (by kernel_rfl) (by kernel_rfl) (by kernel_rfl) (by decide) (fun _ _ _ h => h) (Or.inl ⟨by rfl, fun w _ => (by go_simp)⟩) ?_; simp only [Act.put, List.setIfInBounds_toArray, List.set_cons_zero, List.set_cons_succ]
          refine wpAnyK_one (i := 6) (fuel := 6) rfl (by kernel_rfl) rfl (fun K hK => ?_)
          refine op_runs (some 50) rfl (ex_append_nil h _ _ _ rfl rfl B b.length d rfl (h.sl B b.length d) (u8s_one _) (by simp [maxLen]; omega) (by omega)) ?_; clear h; rintro _ w ⟨A1, c1, rfl, h⟩; refine hK.out _ _ (fun _ => h.to) ?_; clear hK K
          try simp only [Act.put, List.setIfInBounds_toArray, List.set_cons_zero, List.set_cons_succ]
          refine wpAnyK_load 57 (i := 13) (fuel := 5) rfl rfl (by kernel_rfl) (by kernel_rfl) (by kernel_rfl) (.inl (by kernel_rfl)) (by decide) (fun _ _ _ h => h) rfl (fun w h => ex_lit _ _ rfl [(0, .slice A1 b.length c1), (1, .int .i64 ((sent : Int) + 1000))] rfl) ?_; simp only [Act.put, List.setIfInBounds_toArray, List.set_cons_zero, List.set_cons_succ]
          refine wpAnyK_one (i := 14) (fuel := 4) rfl (by kernel_rfl) rfl (fun K hK => ?_)
          refine op_runs (some 58) rfl (ex_slice1 h _ _ rfl (c_tabulariumref18_message (.slice A1 b.length c1) (.int .i64 ((sent : Int) + 1000))) rfl) ?_; clear h; rintro _ w ⟨gx, rfl, h⟩; refine hK.out _ _ (fun _ => h.to) ?_; clear hK K
          try simp only [Act.put, List.setIfInBounds_toArray, List.set_cons_zero, List.set_cons_succ]
          refine wpAnyK_one (i := 15) (fuel := 3) rfl (by kernel_rfl) rfl (fun K hK => ?_)
          have hrm : Row (c_tabulariumref18_message (.slice A1 b.length c1) (.int .i64 ((sent : Int) + 1000))) 2 := c_tabulariumref18_message.row _ _; refine op_runs (some 59) rfl (ex_append h _ _ _ rfl A rfl (some ⟨gx, 0, none⟩) 1 1 rfl (h.slBox gx) hrm.one (by simp [maxLen]; omega) (by omega)) ?_; clear h; rintro _ w ⟨A2, c2, rfl, h⟩; refine hK.out _ _ (SJ.past (by kernel_rfl)) ?_; clear hK K
          try simp only [Act.put, List.setIfInBounds_toArray, List.set_cons_zero, List.set_cons_succ]
          refine wpAnyK_pure 60 (v := ?_) (i := 16) (fuel := 2) rfl rfl (by kernel_rfl) (by kernel_rfl) (by kernel_rfl) (by decide) (fun _ _ _ h => h) (Or.inl ⟨by rfl, fun w _ => ?_⟩) ?_; rotate_left; (go_simp; with_reducible rfl); simp only [Act.put, List.setIfInBounds_toArray, List.set_cons_zero, List.set_cons_succ]
          refine wpAnyK_pure 61 (v := ?_) (i := 17) (fuel := 1) rfl rfl (by kernel_rfl) (by kernel_rfl) (by kernel_rfl) (by decide) (fun _ _ _ h => h) (Or.inl ⟨by rfl, fun w _ => ?_⟩) ?_; rotate_left; (go_simp; with_reducible rfl); simp only [Act.put, List.setIfInBounds_toArray, List.set_cons_zero, List.set_cons_succ]
          refine wpAnyK_one (i := 18) (fuel := 0) rfl (by kernel_rfl) rfl (fun K hK => ?_)
          refine op_runs none rfl (ex_store1s h _ _ _ rfl g 2 rfl _ _ _ rfl) ?_; clear h; rintro _ w ⟨rfl, h⟩; refine hK.out _ _ (SJ.past (by kernel_rfl)) ?_; clear hK K
          try simp only [Act.put, List.setIfInBounds_toArray, List.set_cons_zero, List.set_cons_succ]
          refine wpAnyK_done (by kernel_rfl) ?_
          go_wp2
          obtain ⟨Y, hY⟩ : ∃ Y : Mg, Y = ⟨b, sent + D, A1, c1⟩ := ⟨_, rfl⟩
          have hl : (ys ++ [Y]).length = j + 1 := by simp [Hj.out]
          have hfm : (wait ++ (ys ++ [Y])).flatMap mgr = (wait ++ ys).flatMap mgr ++ c_tabulariumref18_message (.slice A1 b.length c1) (.int .i64 ((sent : Int) + 1000)) := by
            rw [HS.out, hY]
            simp [mgr]
          have h2 : St S w0 w (eSls ((wait ++ ys).map mgp) :: eSl A1 b.length c1 1 (u8s b) :: eBlk g 77 (c_tabulariumref18_Link (.slice fA fates.length fc) (.int .i64 (sent : Int)) (.slice A2 (wait.length + j + 1) c2)) :: eOwn 113 2 A2 (wait.length + j + 1) c2 ((wait ++ ys).flatMap mgr ++ c_tabulariumref18_message (.slice A1 b.length c1) (.int .i64 ((sent : Int) + 1000))) :: eBlk gf 102 (fac f) :: eSl fA fates.length fc 2 (fates.flatMap fac) :: F) := (h.release A1 (by omega)).to
          have h3 := h2.poolAdd
          rw [← hfm] at h3
          have hpm : (wait ++ ys).map mgp ++ [⟨A1, b.length, c1, 1, u8s b⟩] = (wait ++ (ys ++ [Y])).map mgp := by rw [hY]; simp [mgp]
          rw [hpm] at h3
          refine ⟨⟨ys ++ [Y], A2, c2, by rw [hl]; push_cast; rfl, by omega, Lib.hid (by rw [hl, List.map_append, Hys.out, Hj.out, List.replicate_succ', hY]; rfl), ?_⟩, ?_⟩
          · rw [hl]
            exact h3.to
          · simp only [intOf]
            omega
        · have hjn : j = N := by omega
          subst hjn
          by_cases hT : (j : Int) < f.1
          · have f3 : ¬ (j : Int) < 3 := by have := HNi.out; omega
            go_wp2_with (first | (refine wl_runs rfl (ex_store1i h _ _ _ rfl _ _ rfl _ _ rfl) ?_; clear h; rintro _ w ⟨rfl, h⟩; try dsimp only [Act.put]) | (refine wl_reads rfl (ex_loadv h _ _ rfl _ _ rfl) ?_))
            go_end0
            refine ⟨rfl, ⟨fA, fc, A, c⟩, ys, by rw [Hys.out, Hj.out], ?_⟩
            have hwl2 : (wait ++ ys).length = wait.length + j := by rw [List.length_append, Hj.out]
            have e : ((sent + 1 : Nat) : Int) = (sent : Int) + 1 := by omega
            exact St.rkShut (g := g) (k := ⟨fA, fc, A, c⟩) (s := ⟨fates, sent + 1, wait ++ ys⟩) (by simp only [RKP, rkc, e, hwl2]; exact h.to)
          · go_wp2_with (first | (refine wl_runs rfl (ex_store1i h _ _ _ rfl _ _ rfl _ _ rfl) ?_; clear h; rintro _ w ⟨rfl, h⟩; try dsimp only [Act.put]) | (refine wl_reads rfl (ex_loadv h _ _ rfl _ _ rfl) ?_))
            go_end0
            refine ⟨rfl, ⟨fA, fc, A, c⟩, ys, by rw [Hys.out, Hj.out], ?_⟩
            have hwl2 : (wait ++ ys).length = wait.length + j := by rw [List.length_append, Hj.out]
            have e : ((sent + 1 : Nat) : Int) = (sent : Int) + 1 := by omega
            exact St.rkShut (g := g) (k := ⟨fA, fc, A, c⟩) (s := ⟨fates, sent + 1, wait ++ ys⟩) (by simp only [RKP, rkc, e, hwl2]; exact h.to)
    -- END TAIL1
  · have hff : f = (1, 0) := by rw [← hf]; simp [fateM, List.getD, Nat.not_lt.1 hk]
    have f1 : ¬ (sent : Int) < (fates.length : Int) := by omega
    clear hf
    go_enter Try.func27, Try.ntmps27
    go_upto_region 1 with (first
      | (refine wl_reads rfl (ex_lit _ _ rfl [(0, .int .i64 1)] rfl) ?_)
      | (refine wl_runs rfl (ex_alloc h 102 rfl) ?_; clear h; rintro _ w ⟨gf, rfl, h⟩)
      | (refine wl_runs rfl (ex_store h _ _ _ rfl _ _ rfl (c_api_Fate (.int .i64 1) (.int .i64 0)) rfl) ?_; clear h; rintro _ w ⟨rfl, h⟩; try dsimp only [Act.put]))
    refine wp_region_K 10 (fun w' => St _ _ w' _) (by kernel_rfl) h.drew ?_; replace h := h.drew
    refine wpAnyK_pure 8 (v := ?_) (i := 0) (fuel := 9) rfl rfl (by kernel_rfl) (by kernel_rfl) (by kernel_rfl) (by decide) (fun _ _ _ h => h) (Or.inl ⟨by rfl, fun w _ => ?_⟩) ?_; rotate_left; (go_simp; with_reducible rfl); simp only [Act.put, List.setIfInBounds_toArray, List.set_cons_zero, List.set_cons_succ]
    refine wpAnyK_pure 9 (v := ?_) (i := 1) (fuel := 8) rfl rfl (by kernel_rfl) (by kernel_rfl) (by kernel_rfl) (by decide) (fun _ _ _ h => h) (Or.inl ⟨by rfl, fun w _ => ?_⟩) ?_; rotate_left; (go_simp; with_reducible rfl); simp only [Act.put, List.setIfInBounds_toArray, List.set_cons_zero, List.set_cons_succ]
    refine wpAnyK_pure 10 (v := ?_) (i := 2) (fuel := 7) rfl rfl (by kernel_rfl) (by kernel_rfl) (by kernel_rfl) (by decide) (fun _ _ _ h => h) (Or.inl ⟨by rfl, fun w _ => ?_⟩) ?_; rotate_left; (go_simp; with_reducible rfl); simp only [Act.put, List.setIfInBounds_toArray, List.set_cons_zero, List.set_cons_succ]
    refine wpAnyK_load 11 (i := 3) (fuel := 6) rfl rfl (by kernel_rfl) (by kernel_rfl) (by kernel_rfl) (.inr (by decide)) (by decide) (fun _ _ _ h => h) rfl (fun w h => ex_loadv h _ _ rfl _ _ rfl) ?_; simp only [Act.put, List.setIfInBounds_toArray, List.set_cons_zero, List.set_cons_succ]
    refine wpAnyK_pure 12 (v := ?_) (i := 4) (fuel := 5) rfl rfl (by kernel_rfl) (by kernel_rfl) (by kernel_rfl) (by decide) (fun _ _ _ h => h) (Or.inl ⟨by rfl, fun w _ => ?_⟩) ?_; rotate_left; (go_simp; with_reducible rfl); simp only [Act.put, List.setIfInBounds_toArray, List.set_cons_zero, List.set_cons_succ]
    refine wpAnyK_pure 13 (v := ?_) (i := 5) (fuel := 4) rfl rfl (by kernel_rfl) (by kernel_rfl) (by kernel_rfl) (by decide) (fun _ _ _ h => h) (Or.inl ⟨by rfl, fun w _ => ?_⟩) ?_; rotate_left; (go_simp; with_reducible rfl); simp only [Act.put, List.setIfInBounds_toArray, List.set_cons_zero, List.set_cons_succ]
    refine wpAnyK_pure 14 (v := ?_) (i := 6) (fuel := 3) rfl rfl (by kernel_rfl) (by kernel_rfl) (by kernel_rfl) (by decide) (fun _ _ _ h => h) (Or.inl ⟨by rfl, fun w _ => ?_⟩) ?_; rotate_left; (go_simp; with_reducible rfl); simp only [Act.put, List.setIfInBounds_toArray, List.set_cons_zero, List.set_cons_succ]
    refine wpAnyK_load 15 (i := 7) (fuel := 2) rfl rfl (by kernel_rfl) (by kernel_rfl) (by kernel_rfl) (.inr (by decide)) (by decide) (fun _ _ _ h => h) rfl (fun w h => ex_loadv h _ _ rfl _ _ rfl) ?_; simp only [Act.put, List.setIfInBounds_toArray, List.set_cons_zero, List.set_cons_succ]
    refine wpAnyK_pure 16 (v := ?_) (i := 8) (fuel := 1) rfl rfl (by kernel_rfl) (by kernel_rfl) (by kernel_rfl) (by decide) (fun _ _ _ h => h) (Or.inl ⟨by rfl, fun w _ => ?_⟩) ?_; rotate_left; (go_simp; with_reducible rfl); simp only [Act.put, List.setIfInBounds_toArray, List.set_cons_zero, List.set_cons_succ]
    refine wpAnyK_pure 17 (v := ?_) (i := 9) (fuel := 0) rfl rfl (by kernel_rfl) (by kernel_rfl) (by kernel_rfl) (by decide) (fun _ _ _ h => h) (Or.inl ⟨by rfl, fun w _ => ?_⟩) ?_; rotate_left; (go_simp; with_reducible rfl); simp only [Act.put, List.setIfInBounds_toArray, List.set_cons_zero, List.set_cons_succ]
    refine wpAnyK_done (by kernel_rfl) ?_
    have hfa : c_api_Fate (.int .i64 1) (.int .i64 0) = fac f := by rw [hff]
    rw [hfa] at h
    clear hfa hff
    -- TAIL2
    rcases hcase with ⟨hd, hD0⟩ | ⟨hd1, hd2, hd3⟩ | ⟨hd, hD0⟩
    · have HS := Lib.hid (show (sent : Int) = ((sent + D : Nat) : Int) by omega)
      have f7 : f.2 < 0 := hd
      have hwS : IntKind.i64.wrap (sent : Int) = (sent : Int) := by rw [IntKind.wrap_i64]; omega
      replace h : St S w0 _ (eBlk g 77 (c_tabulariumref18_Link (.slice fA fates.length fc) (.int .i64 (sent : Int)) (.slice wA wait.length wc)) :: eOwn 113 2 wA wait.length wc (wait.flatMap mgr) :: eSls (wait.map mgp) :: eBlk gf 102 (fac f) :: eSl fA fates.length fc 2 (fates.flatMap fac) :: F) := h.to
      have hS : (0 : Int) ≤ (sent : Int) ∧ (sent : Int) ≤ 2000000 := by omega
      obtain ⟨hS1, hS2⟩ := hS
      clear hD0
      go_wp2_with (first | (refine wl_reads rfl (ex_loadv h _ _ rfl _ _ rfl) ?_))
      go_loopw [6] (fun x wr => ∃ (ys : List Mg) (A : Option Addr) (c : Nat), x = .int .i64 (ys.length : Int) ∧ ys.length ≤ N ∧ Hid (ys.map mgb = List.replicate ys.length (b, sent + D)) ∧ St S w0 wr (eBlk g 77 (c_tabulariumref18_Link (.slice fA fates.length fc) (.int .i64 (sent : Int)) (.slice A (wait.length + ys.length) c)) :: eOwn 113 2 A (wait.length + ys.length) c ((wait ++ ys).flatMap mgr) :: eSls ((wait ++ ys).map mgp) :: eBlk gf 102 (fac f) :: eSl fA fates.length fc 2 (fates.flatMap fac) :: F)) (fun x _ => N - (intOf x).toNat)
      case atStart => exact ⟨[], wA, wc, rfl, Nat.zero_le _, Lib.hid rfl, by simpa using h⟩
      case round =>
        clear h
        obtain ⟨ys, A, c, rfl, hjN, Hys, h⟩ := hrel
        obtain ⟨j, hj⟩ : ∃ j, ys.length = j := ⟨_, rfl⟩
        have Hj := Lib.hid hj
        rw [hj] at h hjN ⊢
        clear hj
        by_cases hj : j < N
        · have f2 : (j : Int) < f.1 := by have := HNi.out; omega
          have f3 : (j : Int) < 3 := by omega
          go_upto_region 11 with (first | (refine wl_reads rfl (ex_loadv h _ _ rfl _ _ rfl) ?_))
          refine wp_region_K 15 (fun w' => St _ _ w' _) (by kernel_rfl) h.drew ?_; replace h := h.drew
          refine wpAnyK_pure 44 (v := ?_) (i := 0) (fuel := 18) rfl rfl (by kernel_rfl) (by kernel_rfl) (by kernel_rfl) (by decide) (fun _ _ _ h => h) (Or.inl ⟨by rfl, fun w _ => ?_⟩) ?_; rotate_left; (go_simp; with_reducible rfl); simp only [Act.put, List.setIfInBounds_toArray, List.set_cons_zero, List.set_cons_succ]
          refine wpAnyK_pure 45 (v := ?_) (i := 1) (fuel := 17) rfl rfl (by kernel_rfl) (by kernel_rfl) (by kernel_rfl) (by decide) (fun _ _ _ h => h) (Or.inl ⟨by rfl, fun w _ => ?_⟩) ?_; rotate_left; (go_simp; with_reducible rfl); simp only [Act.put, List.setIfInBounds_toArray, List.set_cons_zero, List.set_cons_succ]
          refine wpAnyK_pure 46 (v := ?_) (i := 2) (fuel := 16) rfl rfl (by kernel_rfl) (by kernel_rfl) (by kernel_rfl) (by decide) (fun _ _ _ h => h) (Or.inl ⟨by rfl, fun w _ => ?_⟩) ?_; rotate_left; (go_simp; with_reducible rfl); simp only [Act.put, List.setIfInBounds_toArray, List.set_cons_zero, List.set_cons_succ]
          refine wpAnyK_pure 47 (v := ?_) (i := 3) (fuel := 15) rfl rfl (by kernel_rfl) (by kernel_rfl) (by kernel_rfl) (by decide) (fun _ _ _ h => h) (Or.inl ⟨by rfl, fun w _ => ?_⟩) ?_; rotate_left; (go_simp; with_reducible rfl); simp only [Act.put, List.setIfInBounds_toArray, List.set_cons_zero, List.set_cons_succ]
          refine wpAnyK_load 48 (i := 4) (fuel := 14) rfl rfl (by kernel_rfl) (by kernel_rfl) (by kernel_rfl) (.inl (by kernel_rfl)) (by decide) (fun _ _ _ h => h) rfl (fun w h => ex_loadv h _ _ rfl _ _ rfl) ?_; simp only [Act.put, List.setIfInBounds_toArray, List.set_cons_zero, List.set_cons_succ]
          refine wpAnyK_pure 49 (v := ?_) (i := 5) (fuel := 13) rfl rfl (by kernel_rfl) (by kernel_rfl) (by kernel_rfl) (by decide) (fun _ _ _ h => h) (Or.inl ⟨by rfl, fun w _ => ?_⟩) ?_; rotate_left; (go_simp; with_reducible rfl); simp only [Act.put, List.setIfInBounds_toArray, List.set_cons_zero, List.set_cons_succ]
          refine wpAnyK_pure 51 (v := ?_) (i := 7) (fuel := 12) rfl rfl (by kernel_rfl) (by kernel_rfl) (by kernel_rfl) (by decide) (fun _ _ _ h => h) (Or.inl ⟨by rfl, fun w _ => ?_⟩) ?_; rotate_left; (go_simp; with_reducible rfl); simp only [Act.put, List.setIfInBounds_toArray, List.set_cons_zero, List.set_cons_succ]
          refine wpAnyK_pure 52 (v := ?_) (i := 8) (fuel := 11) rfl rfl (by kernel_rfl) (by kernel_rfl) (by kernel_rfl) (by decide) (fun _ _ _ h => h) (Or.inl ⟨by rfl, fun w _ => ?_⟩) ?_; rotate_left; (go_simp; with_reducible rfl); simp only [Act.put, List.setIfInBounds_toArray, List.set_cons_zero, List.set_cons_succ]
          refine wpAnyK_pure 53 (v := ?_) (i := 9) (fuel := 10) rfl rfl (by kernel_rfl) (by kernel_rfl) (by kernel_rfl) (by decide) (fun _ _ _ h => h) (Or.inl ⟨by rfl, fun w _ => ?_⟩) ?_; rotate_left; (go_simp; with_reducible rfl); simp only [Act.put, List.setIfInBounds_toArray, List.set_cons_zero, List.set_cons_succ]
          refine wpAnyK_load 54 (i := 10) (fuel := 9) rfl rfl (by kernel_rfl) (by kernel_rfl) (by kernel_rfl) (.inl (by kernel_rfl)) (by decide) (fun _ _ _ h => h) rfl (fun w h => ex_loadv h _ _ rfl _ _ rfl) ?_; simp only [Act.put, List.setIfInBounds_toArray, List.set_cons_zero, List.set_cons_succ]
          refine wpAnyK_pure 55 (v := ?_) (i := 11) (fuel := 8) rfl rfl (by kernel_rfl) (by kernel_rfl) (by kernel_rfl) (by decide) (fun _ _ _ h => h) (Or.inl ⟨by rfl, fun w _ => ?_⟩) ?_; rotate_left; (go_simp; with_reducible rfl); simp only [Act.put, List.setIfInBounds_toArray, List.set_cons_zero, List.set_cons_succ]
          refine wpAnyK_pure 56 (v := (.int .i64 (sent : Int))) (i := 12) (fuel := 7) rfl rfl (by kernel_rfl) (by kernel_rfl) (by kernel_rfl) (by decide) (fun _ _ _ h => h) (Or.inl ⟨by rfl, fun w _ => (by go_simp)⟩) ?_; simp only [Act.put, List.setIfInBounds_toArray, List.set_cons_zero, List.set_cons_succ]
          refine wpAnyK_one (i := 6) (fuel := 6) rfl (by kernel_rfl) rfl (fun K hK => ?_)
          refine op_runs (some 50) rfl (ex_append_nil h _ _ _ rfl rfl B b.length d rfl (h.sl B b.length d) (u8s_one _) (by simp [maxLen]; omega) (by omega)) ?_; clear h; rintro _ w ⟨A1, c1, rfl, h⟩; refine hK.out _ _ (fun _ => h.to) ?_; clear hK K
          try simp only [Act.put, List.setIfInBounds_toArray, List.set_cons_zero, List.set_cons_succ]
          refine wpAnyK_load 57 (i := 13) (fuel := 5) rfl rfl (by kernel_rfl) (by kernel_rfl) (by kernel_rfl) (.inl (by kernel_rfl)) (by decide) (fun _ _ _ h => h) rfl (fun w h => ex_lit _ _ rfl [(0, .slice A1 b.length c1), (1, .int .i64 (sent : Int))] rfl) ?_; simp only [Act.put, List.setIfInBounds_toArray, List.set_cons_zero, List.set_cons_succ]
          refine wpAnyK_one (i := 14) (fuel := 4) rfl (by kernel_rfl) rfl (fun K hK => ?_)
          refine op_runs (some 58) rfl (ex_slice1 h _ _ rfl (c_tabulariumref18_message (.slice A1 b.length c1) (.int .i64 (sent : Int))) rfl) ?_; clear h; rintro _ w ⟨gx, rfl, h⟩; refine hK.out _ _ (fun _ => h.to) ?_; clear hK K
          try simp only [Act.put, List.setIfInBounds_toArray, List.set_cons_zero, List.set_cons_succ]
          refine wpAnyK_one (i := 15) (fuel := 3) rfl (by kernel_rfl) rfl (fun K hK => ?_)
          have hrm : Row (c_tabulariumref18_message (.slice A1 b.length c1) (.int .i64 (sent : Int))) 2 := c_tabulariumref18_message.row _ _; refine op_runs (some 59) rfl (ex_append h _ _ _ rfl A rfl (some ⟨gx, 0, none⟩) 1 1 rfl (h.slBox gx) hrm.one (by simp [maxLen]; omega) (by omega)) ?_; clear h; rintro _ w ⟨A2, c2, rfl, h⟩; refine hK.out _ _ (SJ.past (by kernel_rfl)) ?_; clear hK K
          try simp only [Act.put, List.setIfInBounds_toArray, List.set_cons_zero, List.set_cons_succ]
          refine wpAnyK_pure 60 (v := ?_) (i := 16) (fuel := 2) rfl rfl (by kernel_rfl) (by kernel_rfl) (by kernel_rfl) (by decide) (fun _ _ _ h => h) (Or.inl ⟨by rfl, fun w _ => ?_⟩) ?_; rotate_left; (go_simp; with_reducible rfl); simp only [Act.put, List.setIfInBounds_toArray, List.set_cons_zero, List.set_cons_succ]
          refine wpAnyK_pure 61 (v := ?_) (i := 17) (fuel := 1) rfl rfl (by kernel_rfl) (by kernel_rfl) (by kernel_rfl) (by decide) (fun _ _ _ h => h) (Or.inl ⟨by rfl, fun w _ => ?_⟩) ?_; rotate_left; (go_simp; with_reducible rfl); simp only [Act.put, List.setIfInBounds_toArray, List.set_cons_zero, List.set_cons_succ]
          refine wpAnyK_one (i := 18) (fuel := 0) rfl (by kernel_rfl) rfl (fun K hK => ?_)
          refine op_runs none rfl (ex_store1s h _ _ _ rfl g 2 rfl _ _ _ rfl) ?_; clear h; rintro _ w ⟨rfl, h⟩; refine hK.out _ _ (SJ.past (by kernel_rfl)) ?_; clear hK K
          try simp only [Act.put, List.setIfInBounds_toArray, List.set_cons_zero, List.set_cons_succ]
          refine wpAnyK_done (by kernel_rfl) ?_
          go_wp2
          obtain ⟨Y, hY⟩ : ∃ Y : Mg, Y = ⟨b, sent + D, A1, c1⟩ := ⟨_, rfl⟩
          have hl : (ys ++ [Y]).length = j + 1 := by simp [Hj.out]
          have hfm : (wait ++ (ys ++ [Y])).flatMap mgr = (wait ++ ys).flatMap mgr ++ c_tabulariumref18_message (.slice A1 b.length c1) (.int .i64 (sent : Int)) := by
            rw [HS.out, hY]
            simp [mgr]
          have h2 : St S w0 w (eSls ((wait ++ ys).map mgp) :: eSl A1 b.length c1 1 (u8s b) :: eBlk g 77 (c_tabulariumref18_Link (.slice fA fates.length fc) (.int .i64 (sent : Int)) (.slice A2 (wait.length + j + 1) c2)) :: eOwn 113 2 A2 (wait.length + j + 1) c2 ((wait ++ ys).flatMap mgr ++ c_tabulariumref18_message (.slice A1 b.length c1) (.int .i64 (sent : Int))) :: eBlk gf 102 (fac f) :: eSl fA fates.length fc 2 (fates.flatMap fac) :: F) := (h.release A1 (by omega)).to
          have h3 := h2.poolAdd
          rw [← hfm] at h3
          have hpm : (wait ++ ys).map mgp ++ [⟨A1, b.length, c1, 1, u8s b⟩] = (wait ++ (ys ++ [Y])).map mgp := by rw [hY]; simp [mgp]
          rw [hpm] at h3
          refine ⟨⟨ys ++ [Y], A2, c2, by rw [hl]; push_cast; rfl, by omega, Lib.hid (by rw [hl, List.map_append, Hys.out, Hj.out, List.replicate_succ', hY]; rfl), ?_⟩, ?_⟩
          · rw [hl]
            exact h3.to
          · simp only [intOf]
            omega
        · have hjn : j = N := by omega
          subst hjn
          by_cases hT : (j : Int) < f.1
          · have f3 : ¬ (j : Int) < 3 := by have := HNi.out; omega
            go_wp2_with (first | (refine wl_runs rfl (ex_store1i h _ _ _ rfl _ _ rfl _ _ rfl) ?_; clear h; rintro _ w ⟨rfl, h⟩; try dsimp only [Act.put]) | (refine wl_reads rfl (ex_loadv h _ _ rfl _ _ rfl) ?_))
            go_end0
            refine ⟨rfl, ⟨fA, fc, A, c⟩, ys, by rw [Hys.out, Hj.out], ?_⟩
            have hwl2 : (wait ++ ys).length = wait.length + j := by rw [List.length_append, Hj.out]
            have e : ((sent + 1 : Nat) : Int) = (sent : Int) + 1 := by omega
            exact St.rkShut (g := g) (k := ⟨fA, fc, A, c⟩) (s := ⟨fates, sent + 1, wait ++ ys⟩) (by simp only [RKP, rkc, e, hwl2]; exact h.to)
          · go_wp2_with (first | (refine wl_runs rfl (ex_store1i h _ _ _ rfl _ _ rfl _ _ rfl) ?_; clear h; rintro _ w ⟨rfl, h⟩; try dsimp only [Act.put]) | (refine wl_reads rfl (ex_loadv h _ _ rfl _ _ rfl) ?_))
            go_end0
            refine ⟨rfl, ⟨fA, fc, A, c⟩, ys, by rw [Hys.out, Hj.out], ?_⟩
            have hwl2 : (wait ++ ys).length = wait.length + j := by rw [List.length_append, Hj.out]
            have e : ((sent + 1 : Nat) : Int) = (sent : Int) + 1 := by omega
            exact St.rkShut (g := g) (k := ⟨fA, fc, A, c⟩) (s := ⟨fates, sent + 1, wait ++ ys⟩) (by simp only [RKP, rkc, e, hwl2]; exact h.to)
    · have HS := Lib.hid (show ((sent : Int) + f.2) = ((sent + D : Nat) : Int) by omega)
      have f7 : ¬ f.2 < 0 := by omega
      have f8 : ¬ 1000 < f.2 := by omega
      have hwS : IntKind.i64.wrap ((sent : Int) + f.2) = ((sent : Int) + f.2) := by rw [IntKind.wrap_i64]; omega
      replace h : St S w0 _ (eBlk g 77 (c_tabulariumref18_Link (.slice fA fates.length fc) (.int .i64 (sent : Int)) (.slice wA wait.length wc)) :: eOwn 113 2 wA wait.length wc (wait.flatMap mgr) :: eSls (wait.map mgp) :: eBlk gf 102 (fac f) :: eSl fA fates.length fc 2 (fates.flatMap fac) :: F) := h.to
      have hS : (0 : Int) ≤ ((sent : Int) + f.2) ∧ ((sent : Int) + f.2) ≤ 2000000 := by omega
      obtain ⟨hS1, hS2⟩ := hS
      clear hd3
      go_wp2_with (first | (refine wl_reads rfl (ex_loadv h _ _ rfl _ _ rfl) ?_))
      go_loopw [6] (fun x wr => ∃ (ys : List Mg) (A : Option Addr) (c : Nat), x = .int .i64 (ys.length : Int) ∧ ys.length ≤ N ∧ Hid (ys.map mgb = List.replicate ys.length (b, sent + D)) ∧ St S w0 wr (eBlk g 77 (c_tabulariumref18_Link (.slice fA fates.length fc) (.int .i64 (sent : Int)) (.slice A (wait.length + ys.length) c)) :: eOwn 113 2 A (wait.length + ys.length) c ((wait ++ ys).flatMap mgr) :: eSls ((wait ++ ys).map mgp) :: eBlk gf 102 (fac f) :: eSl fA fates.length fc 2 (fates.flatMap fac) :: F)) (fun x _ => N - (intOf x).toNat)
      case atStart => exact ⟨[], wA, wc, rfl, Nat.zero_le _, Lib.hid rfl, by simpa using h⟩
      case round =>
        clear h
        obtain ⟨ys, A, c, rfl, hjN, Hys, h⟩ := hrel
        obtain ⟨j, hj⟩ : ∃ j, ys.length = j := ⟨_, rfl⟩
        have Hj := Lib.hid hj
        rw [hj] at h hjN ⊢
        clear hj
        by_cases hj : j < N
        · have f2 : (j : Int) < f.1 := by have := HNi.out; omega
          have f3 : (j : Int) < 3 := by omega
          go_upto_region 11 with (first | (refine wl_reads rfl (ex_loadv h _ _ rfl _ _ rfl) ?_))
          refine wp_region_K 15 (fun w' => St _ _ w' _) (by kernel_rfl) h.drew ?_; replace h := h.drew
          refine wpAnyK_pure 44 (v := ?_) (i := 0) (fuel := 18) rfl rfl (by kernel_rfl) (by kernel_rfl) (by kernel_rfl) (by decide) (fun _ _ _ h => h) (Or.inl ⟨by rfl, fun w _ => ?_⟩) ?_; rotate_left; (go_simp; with_reducible rfl); simp only [Act.put, List.setIfInBounds_toArray, List.set_cons_zero, List.set_cons_succ]
          refine wpAnyK_pure 45 (v := ?_) (i := 1) (fuel := 17) rfl rfl (by kernel_rfl) (by kernel_rfl) (by kernel_rfl) (by decide) (fun _ _ _ h => h) (Or.inl ⟨by rfl, fun w _ => ?_⟩) ?_; rotate_left; (go_simp; with_reducible rfl); simp only [Act.put, List.setIfInBounds_toArray, List.set_cons_zero, List.set_cons_succ]
          refine wpAnyK_pure 46 (v := ?_) (i := 2) (fuel := 16) rfl rfl (by kernel_rfl) (by kernel_rfl) (by kernel_rfl) (by decide) (fun _ _ _ h => h) (Or.inl ⟨by rfl, fun w _ => ?_⟩) ?_; rotate_left; (go_simp; with_reducible rfl); simp only [Act.put, List.setIfInBounds_toArray, List.set_cons_zero, List.set_cons_succ]
          refine wpAnyK_pure 47 (v := ?_) (i := 3) (fuel := 15) rfl rfl (by kernel_rfl) (by kernel_rfl) (by kernel_rfl) (by decide) (fun _ _ _ h => h) (Or.inl ⟨by rfl, fun w _ => ?_⟩) ?_; rotate_left; (go_simp; with_reducible rfl); simp only [Act.put, List.setIfInBounds_toArray, List.set_cons_zero, List.set_cons_succ]
          refine wpAnyK_load 48 (i := 4) (fuel := 14) rfl rfl (by kernel_rfl) (by kernel_rfl) (by kernel_rfl) (.inl (by kernel_rfl)) (by decide) (fun _ _ _ h => h) rfl (fun w h => ex_loadv h _ _ rfl _ _ rfl) ?_; simp only [Act.put, List.setIfInBounds_toArray, List.set_cons_zero, List.set_cons_succ]
          refine wpAnyK_pure 49 (v := ?_) (i := 5) (fuel := 13) rfl rfl (by kernel_rfl) (by kernel_rfl) (by kernel_rfl) (by decide) (fun _ _ _ h => h) (Or.inl ⟨by rfl, fun w _ => ?_⟩) ?_; rotate_left; (go_simp; with_reducible rfl); simp only [Act.put, List.setIfInBounds_toArray, List.set_cons_zero, List.set_cons_succ]
          refine wpAnyK_pure 51 (v := ?_) (i := 7) (fuel := 12) rfl rfl (by kernel_rfl) (by kernel_rfl) (by kernel_rfl) (by decide) (fun _ _ _ h => h) (Or.inl ⟨by rfl, fun w _ => ?_⟩) ?_; rotate_left; (go_simp; with_reducible rfl); simp only [Act.put, List.setIfInBounds_toArray, List.set_cons_zero, List.set_cons_succ]
          refine wpAnyK_pure 52 (v := ?_) (i := 8) (fuel := 11) rfl rfl (by kernel_rfl) (by kernel_rfl) (by kernel_rfl) (by decide) (fun _ _ _ h => h) (Or.inl ⟨by rfl, fun w _ => ?_⟩) ?_; rotate_left; (go_simp; with_reducible rfl); simp only [Act.put, List.setIfInBounds_toArray, List.set_cons_zero, List.set_cons_succ]
          refine wpAnyK_pure 53 (v := ?_) (i := 9) (fuel := 10) rfl rfl (by kernel_rfl) (by kernel_rfl) (by kernel_rfl) (by decide) (fun _ _ _ h => h) (Or.inl ⟨by rfl, fun w _ => ?_⟩) ?_; rotate_left; (go_simp; with_reducible rfl); simp only [Act.put, List.setIfInBounds_toArray, List.set_cons_zero, List.set_cons_succ]
          refine wpAnyK_load 54 (i := 10) (fuel := 9) rfl rfl (by kernel_rfl) (by kernel_rfl) (by kernel_rfl) (.inl (by kernel_rfl)) (by decide) (fun _ _ _ h => h) rfl (fun w h => ex_loadv h _ _ rfl _ _ rfl) ?_; simp only [Act.put, List.setIfInBounds_toArray, List.set_cons_zero, List.set_cons_succ]
          refine wpAnyK_pure 55 (v := ?_) (i := 11) (fuel := 8) rfl rfl (by kernel_rfl) (by kernel_rfl) (by kernel_rfl) (by decide) (fun _ _ _ h => h) (Or.inl ⟨by rfl, fun w _ => ?_⟩) ?_; rotate_left; (go_simp; with_reducible rfl); simp only [Act.put, List.setIfInBounds_toArray, List.set_cons_zero, List.set_cons_succ]
          refine wpAnyK_pure 56 (v := (.int .i64 ((sent : Int) + f.2))) (i := 12) (fuel := 7) rfl rfl (by kernel_rfl) (by kernel_rfl) (by kernel_rfl) (by decide) (fun _ _ _ h => h) (Or.inl ⟨by rfl, fun w _ => (by go_simp)⟩) ?_; simp only [Act.put, List.setIfInBounds_toArray, List.set_cons_zero, List.set_cons_succ]
          refine wpAnyK_one (i := 6) (fuel := 6) rfl (by kernel_rfl) rfl (fun K hK => ?_)
          refine op_runs (some 50) rfl (ex_append_nil h _ _ _ rfl rfl B b.length d rfl (h.sl B b.length d) (u8s_one _) (by simp [maxLen]; omega) (by omega)) ?_; clear h; rintro _ w ⟨A1, c1, rfl, h⟩; refine hK.out _ _ (fun _ => h.to) ?_; clear hK K
          try simp only [Act.put, List.setIfInBounds_toArray, List.set_cons_zero, List.set_cons_succ]
          refine wpAnyK_load 57 (i := 13) (fuel := 5) rfl rfl (by kernel_rfl) (by kernel_rfl) (by kernel_rfl) (.inl (by kernel_rfl)) (by decide) (fun _ _ _ h => h) rfl (fun w h => ex_lit _ _ rfl [(0, .slice A1 b.length c1), (1, .int .i64 ((sent : Int) + f.2))] rfl) ?_; simp only [Act.put, List.setIfInBounds_toArray, List.set_cons_zero, List.set_cons_succ]
          refine wpAnyK_one (i := 14) (fuel := 4) rfl (by kernel_rfl) rfl (fun K hK => ?_)
          refine op_runs (some 58) rfl (ex_slice1 h _ _ rfl (c_tabulariumref18_message (.slice A1 b.length c1) (.int .i64 ((sent : Int) + f.2))) rfl) ?_; clear h; rintro _ w ⟨gx, rfl, h⟩; refine hK.out _ _ (fun _ => h.to) ?_; clear hK K
          try simp only [Act.put, List.setIfInBounds_toArray, List.set_cons_zero, List.set_cons_succ]
          refine wpAnyK_one (i := 15) (fuel := 3) rfl (by kernel_rfl) rfl (fun K hK => ?_)
          have hrm : Row (c_tabulariumref18_message (.slice A1 b.length c1) (.int .i64 ((sent : Int) + f.2))) 2 := c_tabulariumref18_message.row _ _; refine op_runs (some 59) rfl (ex_append h _ _ _ rfl A rfl (some ⟨gx, 0, none⟩) 1 1 rfl (h.slBox gx) hrm.one (by simp [maxLen]; omega) (by omega)) ?_; clear h; rintro _ w ⟨A2, c2, rfl, h⟩; refine hK.out _ _ (SJ.past (by kernel_rfl)) ?_; clear hK K
          try simp only [Act.put, List.setIfInBounds_toArray, List.set_cons_zero, List.set_cons_succ]
          refine wpAnyK_pure 60 (v := ?_) (i := 16) (fuel := 2) rfl rfl (by kernel_rfl) (by kernel_rfl) (by kernel_rfl) (by decide) (fun _ _ _ h => h) (Or.inl ⟨by rfl, fun w _ => ?_⟩) ?_; rotate_left; (go_simp; with_reducible rfl); simp only [Act.put, List.setIfInBounds_toArray, List.set_cons_zero, List.set_cons_succ]
          refine wpAnyK_pure 61 (v := ?_) (i := 17) (fuel := 1) rfl rfl (by kernel_rfl) (by kernel_rfl) (by kernel_rfl) (by decide) (fun _ _ _ h => h) (Or.inl ⟨by rfl, fun w _ => ?_⟩) ?_; rotate_left; (go_simp; with_reducible rfl); simp only [Act.put, List.setIfInBounds_toArray, List.set_cons_zero, List.set_cons_succ]
          refine wpAnyK_one (i := 18) (fuel := 0) rfl (by kernel_rfl) rfl (fun K hK => ?_)
          refine op_runs none rfl (ex_store1s h _ _ _ rfl g 2 rfl _ _ _ rfl) ?_; clear h; rintro _ w ⟨rfl, h⟩; refine hK.out _ _ (SJ.past (by kernel_rfl)) ?_; clear hK K
          try simp only [Act.put, List.setIfInBounds_toArray, List.set_cons_zero, List.set_cons_succ]
          refine wpAnyK_done (by kernel_rfl) ?_
          go_wp2
          obtain ⟨Y, hY⟩ : ∃ Y : Mg, Y = ⟨b, sent + D, A1, c1⟩ := ⟨_, rfl⟩
          have hl : (ys ++ [Y]).length = j + 1 := by simp [Hj.out]
          have hfm : (wait ++ (ys ++ [Y])).flatMap mgr = (wait ++ ys).flatMap mgr ++ c_tabulariumref18_message (.slice A1 b.length c1) (.int .i64 ((sent : Int) + f.2)) := by
            rw [HS.out, hY]
            simp [mgr]
          have h2 : St S w0 w (eSls ((wait ++ ys).map mgp) :: eSl A1 b.length c1 1 (u8s b) :: eBlk g 77 (c_tabulariumref18_Link (.slice fA fates.length fc) (.int .i64 (sent : Int)) (.slice A2 (wait.length + j + 1) c2)) :: eOwn 113 2 A2 (wait.length + j + 1) c2 ((wait ++ ys).flatMap mgr ++ c_tabulariumref18_message (.slice A1 b.length c1) (.int .i64 ((sent : Int) + f.2))) :: eBlk gf 102 (fac f) :: eSl fA fates.length fc 2 (fates.flatMap fac) :: F) := (h.release A1 (by omega)).to
          have h3 := h2.poolAdd
          rw [← hfm] at h3
          have hpm : (wait ++ ys).map mgp ++ [⟨A1, b.length, c1, 1, u8s b⟩] = (wait ++ (ys ++ [Y])).map mgp := by rw [hY]; simp [mgp]
          rw [hpm] at h3
          refine ⟨⟨ys ++ [Y], A2, c2, by rw [hl]; push_cast; rfl, by omega, Lib.hid (by rw [hl, List.map_append, Hys.out, Hj.out, List.replicate_succ', hY]; rfl), ?_⟩, ?_⟩
          · rw [hl]
            exact h3.to
          · simp only [intOf]
            omega
        · have hjn : j = N := by omega
          subst hjn
          by_cases hT : (j : Int) < f.1
          · have f3 : ¬ (j : Int) < 3 := by have := HNi.out; omega
            go_wp2_with (first | (refine wl_runs rfl (ex_store1i h _ _ _ rfl _ _ rfl _ _ rfl) ?_; clear h; rintro _ w ⟨rfl, h⟩; try dsimp only [Act.put]) | (refine wl_reads rfl (ex_loadv h _ _ rfl _ _ rfl) ?_))
            go_end0
            refine ⟨rfl, ⟨fA, fc, A, c⟩, ys, by rw [Hys.out, Hj.out], ?_⟩
            have hwl2 : (wait ++ ys).length = wait.length + j := by rw [List.length_append, Hj.out]
            have e : ((sent + 1 : Nat) : Int) = (sent : Int) + 1 := by omega
            exact St.rkShut (g := g) (k := ⟨fA, fc, A, c⟩) (s := ⟨fates, sent + 1, wait ++ ys⟩) (by simp only [RKP, rkc, e, hwl2]; exact h.to)
          · go_wp2_with (first | (refine wl_runs rfl (ex_store1i h _ _ _ rfl _ _ rfl _ _ rfl) ?_; clear h; rintro _ w ⟨rfl, h⟩; try dsimp only [Act.put]) | (refine wl_reads rfl (ex_loadv h _ _ rfl _ _ rfl) ?_))
            go_end0
            refine ⟨rfl, ⟨fA, fc, A, c⟩, ys, by rw [Hys.out, Hj.out], ?_⟩
            have hwl2 : (wait ++ ys).length = wait.length + j := by rw [List.length_append, Hj.out]
            have e : ((sent + 1 : Nat) : Int) = (sent : Int) + 1 := by omega
            exact St.rkShut (g := g) (k := ⟨fA, fc, A, c⟩) (s := ⟨fates, sent + 1, wait ++ ys⟩) (by simp only [RKP, rkc, e, hwl2]; exact h.to)
    · have HS := Lib.hid (show ((sent : Int) + 1000) = ((sent + D : Nat) : Int) by omega)
      have f7 : ¬ f.2 < 0 := by omega
      have f8 : 1000 < f.2 := hd
      have hwS : IntKind.i64.wrap ((sent : Int) + 1000) = ((sent : Int) + 1000) := by rw [IntKind.wrap_i64]; omega
      replace h : St S w0 _ (eBlk g 77 (c_tabulariumref18_Link (.slice fA fates.length fc) (.int .i64 (sent : Int)) (.slice wA wait.length wc)) :: eOwn 113 2 wA wait.length wc (wait.flatMap mgr) :: eSls (wait.map mgp) :: eBlk gf 102 (fac f) :: eSl fA fates.length fc 2 (fates.flatMap fac) :: F) := h.to
      have hS : (0 : Int) ≤ ((sent : Int) + 1000) ∧ ((sent : Int) + 1000) ≤ 2000000 := by omega
      obtain ⟨hS1, hS2⟩ := hS
      clear hD0
      go_wp2_with (first | (refine wl_reads rfl (ex_loadv h _ _ rfl _ _ rfl) ?_))
      go_loopw [6] (fun x wr => ∃ (ys : List Mg) (A : Option Addr) (c : Nat), x = .int .i64 (ys.length : Int) ∧ ys.length ≤ N ∧ Hid (ys.map mgb = List.replicate ys.length (b, sent + D)) ∧ St S w0 wr (eBlk g 77 (c_tabulariumref18_Link (.slice fA fates.length fc) (.int .i64 (sent : Int)) (.slice A (wait.length + ys.length) c)) :: eOwn 113 2 A (wait.length + ys.length) c ((wait ++ ys).flatMap mgr) :: eSls ((wait ++ ys).map mgp) :: eBlk gf 102 (fac f) :: eSl fA fates.length fc 2 (fates.flatMap fac) :: F)) (fun x _ => N - (intOf x).toNat)
      case atStart => exact ⟨[], wA, wc, rfl, Nat.zero_le _, Lib.hid rfl, by simpa using h⟩
      case round =>
        clear h
        obtain ⟨ys, A, c, rfl, hjN, Hys, h⟩ := hrel
        obtain ⟨j, hj⟩ : ∃ j, ys.length = j := ⟨_, rfl⟩
        have Hj := Lib.hid hj
        rw [hj] at h hjN ⊢
        clear hj
        by_cases hj : j < N
        · have f2 : (j : Int) < f.1 := by have := HNi.out; omega
          have f3 : (j : Int) < 3 := by omega
          go_upto_region 11 with (first | (refine wl_reads rfl (ex_loadv h _ _ rfl _ _ rfl) ?_))
          refine wp_region_K 15 (fun w' => St _ _ w' _) (by kernel_rfl) h.drew ?_; replace h := h.drew
          refine wpAnyK_pure 44 (v := ?_) (i := 0) (fuel := 18) rfl rfl (by kernel_rfl) (by kernel_rfl) (by kernel_rfl) (by decide) (fun _ _ _ h => h) (Or.inl ⟨by rfl, fun w _ => ?_⟩) ?_; rotate_left; (go_simp; with_reducible rfl); simp only [Act.put, List.setIfInBounds_toArray, List.set_cons_zero, List.set_cons_succ]
          refine wpAnyK_pure 45 (v := ?_) (i := 1) (fuel := 17) rfl rfl (by kernel_rfl) (by kernel_rfl) (by kernel_rfl) (by decide) (fun _ _ _ h => h) (Or.inl ⟨by rfl, fun w _ => ?_⟩) ?_; rotate_left; (go_simp; with_reducible rfl); simp only [Act.put, List.setIfInBounds_toArray, List.set_cons_zero, List.set_cons_succ]
          refine wpAnyK_pure 46 (v := ?_) (i := 2) (fuel := 16) rfl rfl (by kernel_rfl) (by kernel_rfl) (by kernel_rfl) (by decide) (fun _ _ _ h => h) (Or.inl ⟨by rfl, fun w _ => ?_⟩) ?_; rotate_left; (go_simp; with_reducible rfl); simp only [Act.put, List.setIfInBounds_toArray, List.set_cons_zero, List.set_cons_succ]
          refine wpAnyK_pure 47 (v := ?_) (i := 3) (fuel := 15) rfl rfl (by kernel_rfl) (by kernel_rfl) (by kernel_rfl) (by decide) (fun _ _ _ h => h) (Or.inl ⟨by rfl, fun w _ => ?_⟩) ?_; rotate_left; (go_simp; with_reducible rfl); simp only [Act.put, List.setIfInBounds_toArray, List.set_cons_zero, List.set_cons_succ]
          refine wpAnyK_load 48 (i := 4) (fuel := 14) rfl rfl (by kernel_rfl) (by kernel_rfl) (by kernel_rfl) (.inl (by kernel_rfl)) (by decide) (fun _ _ _ h => h) rfl (fun w h => ex_loadv h _ _ rfl _ _ rfl) ?_; simp only [Act.put, List.setIfInBounds_toArray, List.set_cons_zero, List.set_cons_succ]
          refine wpAnyK_pure 49 (v := ?_) (i := 5) (fuel := 13) rfl rfl (by kernel_rfl) (by kernel_rfl) (by kernel_rfl) (by decide) (fun _ _ _ h => h) (Or.inl ⟨by rfl, fun w _ => ?_⟩) ?_; rotate_left; (go_simp; with_reducible rfl); simp only [Act.put, List.setIfInBounds_toArray, List.set_cons_zero, List.set_cons_succ]
          refine wpAnyK_pure 51 (v := ?_) (i := 7) (fuel := 12) rfl rfl (by kernel_rfl) (by kernel_rfl) (by kernel_rfl) (by decide) (fun _ _ _ h => h) (Or.inl ⟨by rfl, fun w _ => ?_⟩) ?_; rotate_left; (go_simp; with_reducible rfl); simp only [Act.put, List.setIfInBounds_toArray, List.set_cons_zero, List.set_cons_succ]
          refine wpAnyK_pure 52 (v := ?_) (i := 8) (fuel := 11) rfl rfl (by kernel_rfl) (by kernel_rfl) (by kernel_rfl) (by decide) (fun _ _ _ h => h) (Or.inl ⟨by rfl, fun w _ => ?_⟩) ?_; rotate_left; (go_simp; with_reducible rfl); simp only [Act.put, List.setIfInBounds_toArray, List.set_cons_zero, List.set_cons_succ]
          refine wpAnyK_pure 53 (v := ?_) (i := 9) (fuel := 10) rfl rfl (by kernel_rfl) (by kernel_rfl) (by kernel_rfl) (by decide) (fun _ _ _ h => h) (Or.inl ⟨by rfl, fun w _ => ?_⟩) ?_; rotate_left; (go_simp; with_reducible rfl); simp only [Act.put, List.setIfInBounds_toArray, List.set_cons_zero, List.set_cons_succ]
          refine wpAnyK_load 54 (i := 10) (fuel := 9) rfl rfl (by kernel_rfl) (by kernel_rfl) (by kernel_rfl) (.inl (by kernel_rfl)) (by decide) (fun _ _ _ h => h) rfl (fun w h => ex_loadv h _ _ rfl _ _ rfl) ?_; simp only [Act.put, List.setIfInBounds_toArray, List.set_cons_zero, List.set_cons_succ]
          refine wpAnyK_pure 55 (v := ?_) (i := 11) (fuel := 8) rfl rfl (by kernel_rfl) (by kernel_rfl) (by kernel_rfl) (by decide) (fun _ _ _ h => h) (Or.inl ⟨by rfl, fun w _ => ?_⟩) ?_; rotate_left; (go_simp; with_reducible rfl); simp only [Act.put, List.setIfInBounds_toArray, List.set_cons_zero, List.set_cons_succ]
          refine wpAnyK_pure 56 (v := (.int .i64 ((sent : Int) + 1000))) (i := 12) (fuel := 7) rfl rfl (by kernel_rfl) (by kernel_rfl) (by kernel_rfl) (by decide) (fun _ _ _ h => h) (Or.inl ⟨by rfl, fun w _ => (by go_simp)⟩) ?_; simp only [Act.put, List.setIfInBounds_toArray, List.set_cons_zero, List.set_cons_succ]
          refine wpAnyK_one (i := 6) (fuel := 6) rfl (by kernel_rfl) rfl (fun K hK => ?_)
          refine op_runs (some 50) rfl (ex_append_nil h _ _ _ rfl rfl B b.length d rfl (h.sl B b.length d) (u8s_one _) (by simp [maxLen]; omega) (by omega)) ?_; clear h; rintro _ w ⟨A1, c1, rfl, h⟩; refine hK.out _ _ (fun _ => h.to) ?_; clear hK K
          try simp only [Act.put, List.setIfInBounds_toArray, List.set_cons_zero, List.set_cons_succ]
          refine wpAnyK_load 57 (i := 13) (fuel := 5) rfl rfl (by kernel_rfl) (by kernel_rfl) (by kernel_rfl) (.inl (by kernel_rfl)) (by decide) (fun _ _ _ h => h) rfl (fun w h => ex_lit _ _ rfl [(0, .slice A1 b.length c1), (1, .int .i64 ((sent : Int) + 1000))] rfl) ?_; simp only [Act.put, List.setIfInBounds_toArray, List.set_cons_zero, List.set_cons_succ]
          refine wpAnyK_one (i := 14) (fuel := 4) rfl (by kernel_rfl) rfl (fun K hK => ?_)
          refine op_runs (some 58) rfl (ex_slice1 h _ _ rfl (c_tabulariumref18_message (.slice A1 b.length c1) (.int .i64 ((sent : Int) + 1000))) rfl) ?_; clear h; rintro _ w ⟨gx, rfl, h⟩; refine hK.out _ _ (fun _ => h.to) ?_; clear hK K
          try simp only [Act.put, List.setIfInBounds_toArray, List.set_cons_zero, List.set_cons_succ]
          refine wpAnyK_one (i := 15) (fuel := 3) rfl (by kernel_rfl) rfl (fun K hK => ?_)
          have hrm : Row (c_tabulariumref18_message (.slice A1 b.length c1) (.int .i64 ((sent : Int) + 1000))) 2 := c_tabulariumref18_message.row _ _; refine op_runs (some 59) rfl (ex_append h _ _ _ rfl A rfl (some ⟨gx, 0, none⟩) 1 1 rfl (h.slBox gx) hrm.one (by simp [maxLen]; omega) (by omega)) ?_; clear h; rintro _ w ⟨A2, c2, rfl, h⟩; refine hK.out _ _ (SJ.past (by kernel_rfl)) ?_; clear hK K
          try simp only [Act.put, List.setIfInBounds_toArray, List.set_cons_zero, List.set_cons_succ]
          refine wpAnyK_pure 60 (v := ?_) (i := 16) (fuel := 2) rfl rfl (by kernel_rfl) (by kernel_rfl) (by kernel_rfl) (by decide) (fun _ _ _ h => h) (Or.inl ⟨by rfl, fun w _ => ?_⟩) ?_; rotate_left; (go_simp; with_reducible rfl); simp only [Act.put, List.setIfInBounds_toArray, List.set_cons_zero, List.set_cons_succ]
          refine wpAnyK_pure 61 (v := ?_) (i := 17) (fuel := 1) rfl rfl (by kernel_rfl) (by kernel_rfl) (by kernel_rfl) (by decide) (fun _ _ _ h => h) (Or.inl ⟨by rfl, fun w _ => ?_⟩) ?_; rotate_left; (go_simp; with_reducible rfl); simp only [Act.put, List.setIfInBounds_toArray, List.set_cons_zero, List.set_cons_succ]
          refine wpAnyK_one (i := 18) (fuel := 0) rfl (by kernel_rfl) rfl (fun K hK => ?_)
          refine op_runs none rfl (ex_store1s h _ _ _ rfl g 2 rfl _ _ _ rfl) ?_; clear h; rintro _ w ⟨rfl, h⟩; refine hK.out _ _ (SJ.past (by kernel_rfl)) ?_; clear hK K
          try simp only [Act.put, List.setIfInBounds_toArray, List.set_cons_zero, List.set_cons_succ]
          refine wpAnyK_done (by kernel_rfl) ?_
          go_wp2
          obtain ⟨Y, hY⟩ : ∃ Y : Mg, Y = ⟨b, sent + D, A1, c1⟩ := ⟨_, rfl⟩
          have hl : (ys ++ [Y]).length = j + 1 := by simp [Hj.out]
          have hfm : (wait ++ (ys ++ [Y])).flatMap mgr = (wait ++ ys).flatMap mgr ++ c_tabulariumref18_message (.slice A1 b.length c1) (.int .i64 ((sent : Int) + 1000)) := by
            rw [HS.out, hY]
            simp [mgr]
          have h2 : St S w0 w (eSls ((wait ++ ys).map mgp) :: eSl A1 b.length c1 1 (u8s b) :: eBlk g 77 (c_tabulariumref18_Link (.slice fA fates.length fc) (.int .i64 (sent : Int)) (.slice A2 (wait.length + j + 1) c2)) :: eOwn 113 2 A2 (wait.length + j + 1) c2 ((wait ++ ys).flatMap mgr ++ c_tabulariumref18_message (.slice A1 b.length c1) (.int .i64 ((sent : Int) + 1000))) :: eBlk gf 102 (fac f) :: eSl fA fates.length fc 2 (fates.flatMap fac) :: F) := (h.release A1 (by omega)).to
          have h3 := h2.poolAdd
          rw [← hfm] at h3
          have hpm : (wait ++ ys).map mgp ++ [⟨A1, b.length, c1, 1, u8s b⟩] = (wait ++ (ys ++ [Y])).map mgp := by rw [hY]; simp [mgp]
          rw [hpm] at h3
          refine ⟨⟨ys ++ [Y], A2, c2, by rw [hl]; push_cast; rfl, by omega, Lib.hid (by rw [hl, List.map_append, Hys.out, Hj.out, List.replicate_succ', hY]; rfl), ?_⟩, ?_⟩
          · rw [hl]
            exact h3.to
          · simp only [intOf]
            omega
        · have hjn : j = N := by omega
          subst hjn
          by_cases hT : (j : Int) < f.1
          · have f3 : ¬ (j : Int) < 3 := by have := HNi.out; omega
            go_wp2_with (first | (refine wl_runs rfl (ex_store1i h _ _ _ rfl _ _ rfl _ _ rfl) ?_; clear h; rintro _ w ⟨rfl, h⟩; try dsimp only [Act.put]) | (refine wl_reads rfl (ex_loadv h _ _ rfl _ _ rfl) ?_))
            go_end0
            refine ⟨rfl, ⟨fA, fc, A, c⟩, ys, by rw [Hys.out, Hj.out], ?_⟩
            have hwl2 : (wait ++ ys).length = wait.length + j := by rw [List.length_append, Hj.out]
            have e : ((sent + 1 : Nat) : Int) = (sent : Int) + 1 := by omega
            exact St.rkShut (g := g) (k := ⟨fA, fc, A, c⟩) (s := ⟨fates, sent + 1, wait ++ ys⟩) (by simp only [RKP, rkc, e, hwl2]; exact h.to)
          · go_wp2_with (first | (refine wl_runs rfl (ex_store1i h _ _ _ rfl _ _ rfl _ _ rfl) ?_; clear h; rintro _ w ⟨rfl, h⟩; try dsimp only [Act.put]) | (refine wl_reads rfl (ex_loadv h _ _ rfl _ _ rfl) ?_))
            go_end0
            refine ⟨rfl, ⟨fA, fc, A, c⟩, ys, by rw [Hys.out, Hj.out], ?_⟩
            have hwl2 : (wait ++ ys).length = wait.length + j := by rw [List.length_append, Hj.out]
            have e : ((sent + 1 : Nat) : Int) = (sent : Int) + 1 := by omega
            exact St.rkShut (g := g) (k := ⟨fA, fc, A, c⟩) (s := ⟨fates, sent + 1, wait ++ ys⟩) (by simp only [RKP, rkc, e, hwl2]; exact h.to)
    -- END TAIL2
end Go.Proofs.Ythnjfpjojmcccaa
