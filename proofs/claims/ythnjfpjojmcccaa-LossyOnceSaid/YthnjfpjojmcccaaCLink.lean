/- A line as it lies; what the program's functions do with it. -/
import Derived.Test.YthnjfpjojmcccaaCB2
import Derived.Test.YthnjfpjojmcccaaCInsMsg
import Derived.Test.YthnjfpjojmcccaaCClone
namespace Go.Proofs.Ythnjfpjojmcccaa
open Go.RowKit
set_option linter.unusedVariables false
set_option linter.unusedSimpArgs false

/-- A message that waits: its bytes, when it is due; where it lies. -/
structure Mg where
  body : List UInt8
  due : Nat
  A : Option Addr
  c : Nat
abbrev mgc (x : Mg) : List Value := c_lossy_message (.slice x.A x.body.length x.c) (.int .i64 (x.due : Int))
def mgp (x : Mg) : SlAt := ⟨x.A, x.body.length, x.c, 1, u8s x.body⟩
def mgb (x : Mg) : List UInt8 × Nat := (x.body, x.due)
theorem mgc_length (x : Mg) : (mgc x).length = 2 := rfl
theorem mgc_one (x : Mg) : ∀ u ∈ mgc x, u.oneCell' = true := by
  intro u hu
  simp [mgc, c_lossy_message] at hu
  rcases hu with rfl | rfl <;> rfl
abbrev Fa := Int × Int
abbrev fac (f : Fa) : List Value := c_api_Fate (.int .i64 f.1) (.int .i64 f.2)
theorem fac_length (x : Fa) : (fac x).length = 2 := rfl
theorem fac_one (l : List Fa) : ∀ u ∈ l.flatMap fac, u.oneCell' = true := by
  intro u hu
  obtain ⟨f, _, hu⟩ := List.mem_flatMap.1 hu
  simp [fac, c_api_Fate] at hu
  rcases hu with rfl | rfl <;> rfl
theorem mgs_one (l : List Mg) : ∀ u ∈ l.flatMap mgc, u.oneCell' = true := by
  intro u hu
  obtain ⟨f, _, hu⟩ := List.mem_flatMap.1 hu
  exact mgc_one f u hu
structure Lk where
  fates : List Fa
  sent : Nat
  wait : List Mg
structure LkAt where
  fA : Option Addr
  fc : Nat
  wA : Option Addr
  wc : Nat
abbrev lkc (k : LkAt) (s : Lk) : List Value := c_lossy_Link (.slice k.fA s.fates.length k.fc) (.int .i64 (s.sent : Int)) (.slice k.wA s.wait.length k.wc) (.bool true)
abbrev LKP (g : Nat) (k : LkAt) (s : Lk) (L : List Ent) : List Ent :=
  eBlk g 86 (lkc k s) :: eSl k.fA s.fates.length k.fc 2 (s.fates.flatMap fac) :: eOwn 107 2 k.wA s.wait.length k.wc (s.wait.flatMap mgc) :: eSls (s.wait.map mgp) :: L
def eLk (g : Nat) (k : LkAt) (s : Lk) : Ent :=
  eStar (eStar (eStar (eBlk g 86 (lkc k s)) (eSl k.fA s.fates.length k.fc 2 (s.fates.flatMap fac))) (eOwn 107 2 k.wA s.wait.length k.wc (s.wait.flatMap mgc))) (eSls (s.wait.map mgp))
class SlotL (L : List Ent) (g : Nat) (k : outParam LkAt) (s : outParam Lk) (F : outParam (List Ent)) : Prop where
  perm : L.Perm (eLk g k s :: F)
instance (priority := high) SlotL.hit (g : Nat) (k : LkAt) (s : Lk) (L : List Ent) : SlotL (eLk g k s :: L) g k s L := ⟨.refl _⟩
instance SlotL.miss (x : Ent) (g : Nat) (k : LkAt) (s : Lk) (L F : List Ent) [h : SlotL L g k s F] : SlotL (x :: L) g k s (x :: F) := ⟨(h.perm.cons x).trans (.swap _ _ _)⟩
instance Calm.lk (g : Nat) (k : LkAt) (s : Lk) (L : List Ent) [c : Calm L] : Calm (eLk g k s :: L) := Calm.cons' rfl c
section
variable {S : Nat → Prop} {w0 w : World} {L F : List Ent}
theorem St.lkOpen (h : St S w0 w L) (g : Nat) {k : LkAt} {s : Lk} [sl : SlotL L g k s F] : St S w0 w (LKP g k s F) := (h.perm sl.perm).unstar.unstar.unstar
theorem St.lkShut {g : Nat} {k : LkAt} {s : Lk} (h : St S w0 w (LKP g k s F)) : St S w0 w (eLk g k s :: F) := h.star.star.star
end
/-- The fate of the next. -/
def fateM (s : Lk) : Fa := s.fates.getD s.sent (1, 0)
set_option maxRecDepth 100000 in
theorem lk_new {S : Nat → Prop} {w0 w : World} {L : List Ent} {A : Option Addr} {n c : Nat} {fs : List Fa} (h : St S w0 w L) [ka : HasSl L A n c 2 (fs.flatMap fac)] (hn : n ≤ 1000000) :
    Calls Try.prog 25 #[.slice A n c] w fun e w' => ∃ g k, e = .returned (.pointer (some ⟨g, 0, none⟩)) ∧ St S w0 w' (eLk g k ⟨fs, 0, []⟩ :: L) := by
  have hfl := Lib.hid ((h.sl A n c).n_flat fac_length (by omega))
  go_enter Try.func25, Try.ntmps25
  go_wp2_with (first
    | (go_at_call 43; refine (clone_fates (A := A) (n := n) (c := c) h (fac_one fs) (by omega)).mono ?_; clear h; rintro e w ⟨A1, c1, rfl, h⟩)
    | (refine wl_reads rfl (ex_lit _ _ rfl [(0, .slice A1 n c1), (3, .bool true)] rfl) ?_)
    | (refine wl_runs rfl (ex_box h 86 _ rfl (c_lossy_Link (.slice A1 n c1) (.int .i64 0) (.slice none 0 0) (.bool true)) rfl) ?_; clear h; rintro _ w ⟨g, rfl, h⟩))
  go_ret
  have hfl : n = fs.length := hfl.out
  subst hfl
  have h2 := ((h.release A1 (by omega)).nilRow 107 2).pool0
  have h3 : St S w0 w (eBlk g 86 (c_lossy_Link (.slice A1 fs.length c1) (.int .i64 0) (.slice none 0 0) (.bool true)) :: eSl A1 fs.length c1 2 (fs.flatMap fac) :: eOwn 107 2 none 0 0 [] :: eSls [] :: L) := h2.to
  have h4 : St S w0 w (LKP g ⟨A1, c1, none, 0⟩ ⟨fs, 0, []⟩ L) := h3
  exact ⟨g, _, rfl, h4.lkShut⟩
set_option maxRecDepth 100000 in
theorem lk_waiting {S : Nat → Prop} {w0 w : World} {L F : List Ent} {g : Nat} {k : LkAt} {s : Lk} (h : St S w0 w L) [sl : SlotL L g k s F] :
    Calls Try.prog 30 #[.pointer (some ⟨g, 0, none⟩)] w fun e w' => e = .returned (.int .i64 (s.wait.length : Int)) ∧ w' = w := by
  replace h := h.lkOpen g
  go_enter Try.func30, Try.ntmps30
  go_wp2_with (first | (refine wl_reads rfl (ex_loadv h _ _ rfl _ _ rfl) ?_))
  go_ret
  exact ⟨rfl, rfl⟩
set_option maxRecDepth 100000 in
set_option maxHeartbeats 1000000 in
theorem lk_fate {S : Nat → Prop} {w0 w : World} {L F : List Ent} {g : Nat} {k : LkAt} {s : Lk} (h : St S w0 w L) [sl : SlotL L g k s F] (hfl : s.fates.length ≤ 1000000) (hse : s.sent ≤ 1000000) :
    Calls Try.prog 44 #[.pointer (some ⟨g, 0, none⟩)] w fun e w' => e = .returned (.agg (fac (fateM s)).toArray) ∧ St S w0 w' (eLk g k s :: F) := by
  replace h := h.lkOpen g
  obtain ⟨fates, sent, wait⟩ := s
  obtain ⟨fA, fc, wA, wc⟩ := k
  simp only at h hfl hse ⊢
  by_cases hk : sent < fates.length
  · have hf : fateM ⟨fates, sent, wait⟩ = fates[sent] := by simp [fateM, hk]
    rw [hf]
    have f1 : (sent : Int) < (fates.length : Int) := by omega
    obtain ⟨b, off, rfl, _⟩ := (h.sl fA fates.length fc).pos (by omega)
    obtain ⟨f, hff⟩ : ∃ f, fates[sent] = f := ⟨_, rfl⟩
    have hel : ∀ {w}, Sl w (some ⟨b, off, none⟩) fates.length fc 2 (fates.flatMap fac) → Cells w b (off + sent * 2) (fac f) := fun hs => by rw [← hff]; exact hs.elemAt fac_length hk (by omega)
    rw [hff]
    have hr : Row (fac f) 2 := c_api_Fate.row _ _
    have t0 : ((sent : Int)).toNat = sent := by omega
    clear hf hff
    go_enter Try.func44, Try.ntmps44
    go_upto_region 1 with (first | (refine wl_runs rfl (ex_alloc h 102 rfl) ?_; clear h; rintro _ w ⟨gf, rfl, h⟩))
    refine wp_region_K 10 (fun w' => St _ _ w' _) (by kernel_rfl) h.drew ?_; replace h := h.drew
    refine wpAnyK_pure 3 (v := ?_) (i := 0) (fuel := 9) rfl rfl (by kernel_rfl) (by kernel_rfl) (by kernel_rfl) (by decide) (fun _ _ _ h => h) (Or.inl ⟨by rfl, fun w _ => ?_⟩) ?_; rotate_left; (go_simp; with_reducible rfl); simp only [Act.put, List.setIfInBounds_toArray, List.set_cons_zero, List.set_cons_succ]
    refine wpAnyK_pure 4 (v := ?_) (i := 1) (fuel := 8) rfl rfl (by kernel_rfl) (by kernel_rfl) (by kernel_rfl) (by decide) (fun _ _ _ h => h) (Or.inl ⟨by rfl, fun w _ => ?_⟩) ?_; rotate_left; (go_simp; with_reducible rfl); simp only [Act.put, List.setIfInBounds_toArray, List.set_cons_zero, List.set_cons_succ]
    refine wpAnyK_pure 5 (v := ?_) (i := 2) (fuel := 7) rfl rfl (by kernel_rfl) (by kernel_rfl) (by kernel_rfl) (by decide) (fun _ _ _ h => h) (Or.inl ⟨by rfl, fun w _ => ?_⟩) ?_; rotate_left; (go_simp; with_reducible rfl); simp only [Act.put, List.setIfInBounds_toArray, List.set_cons_zero, List.set_cons_succ]
    refine wpAnyK_load 6 (i := 3) (fuel := 6) rfl rfl (by kernel_rfl) (by kernel_rfl) (by kernel_rfl) (.inr (by decide)) (by decide) (fun _ _ _ h => h) rfl (fun w h => ex_loadv h _ _ rfl _ _ rfl) ?_; simp only [Act.put, List.setIfInBounds_toArray, List.set_cons_zero, List.set_cons_succ]
    refine wpAnyK_pure 7 (v := ?_) (i := 4) (fuel := 5) rfl rfl (by kernel_rfl) (by kernel_rfl) (by kernel_rfl) (by decide) (fun _ _ _ h => h) (Or.inl ⟨by rfl, fun w _ => ?_⟩) ?_; rotate_left; (go_simp; with_reducible rfl); simp only [Act.put, List.setIfInBounds_toArray, List.set_cons_zero, List.set_cons_succ]
    refine wpAnyK_pure 8 (v := ?_) (i := 5) (fuel := 4) rfl rfl (by kernel_rfl) (by kernel_rfl) (by kernel_rfl) (by decide) (fun _ _ _ h => h) (Or.inl ⟨by rfl, fun w _ => ?_⟩) ?_; rotate_left; (go_simp; with_reducible rfl); simp only [Act.put, List.setIfInBounds_toArray, List.set_cons_zero, List.set_cons_succ]
    refine wpAnyK_pure 9 (v := ?_) (i := 6) (fuel := 3) rfl rfl (by kernel_rfl) (by kernel_rfl) (by kernel_rfl) (by decide) (fun _ _ _ h => h) (Or.inl ⟨by rfl, fun w _ => ?_⟩) ?_; rotate_left; (go_simp; with_reducible rfl); simp only [Act.put, List.setIfInBounds_toArray, List.set_cons_zero, List.set_cons_succ]
    refine wpAnyK_load 10 (i := 7) (fuel := 2) rfl rfl (by kernel_rfl) (by kernel_rfl) (by kernel_rfl) (.inr (by decide)) (by decide) (fun _ _ _ h => h) rfl (fun w h => ex_loadv h _ _ rfl _ _ rfl) ?_; simp only [Act.put, List.setIfInBounds_toArray, List.set_cons_zero, List.set_cons_succ]
    refine wpAnyK_pure 11 (v := ?_) (i := 8) (fuel := 1) rfl rfl (by kernel_rfl) (by kernel_rfl) (by kernel_rfl) (by decide) (fun _ _ _ h => h) (Or.inl ⟨by rfl, fun w _ => ?_⟩) ?_; rotate_left; (go_simp; with_reducible rfl); simp only [Act.put, List.setIfInBounds_toArray, List.set_cons_zero, List.set_cons_succ]
    refine wpAnyK_pure 12 (v := ?_) (i := 9) (fuel := 0) rfl rfl (by kernel_rfl) (by kernel_rfl) (by kernel_rfl) (by decide) (fun _ _ _ h => h) (Or.inl ⟨by rfl, fun w _ => ?_⟩) ?_; rotate_left; (go_simp; with_reducible rfl); simp only [Act.put, List.setIfInBounds_toArray, List.set_cons_zero, List.set_cons_succ]
    refine wpAnyK_done (by kernel_rfl) ?_
    go_upto_region 2 with (fail)
    refine wp_region_K 10 (fun w' => St _ _ w' _) (by kernel_rfl) h.drew ?_; replace h := h.drew
    refine wpAnyK_pure 13 (v := ?_) (i := 0) (fuel := 10) rfl rfl (by kernel_rfl) (by kernel_rfl) (by kernel_rfl) (by decide) (fun _ _ _ h => h) (Or.inl ⟨by rfl, fun w _ => ?_⟩) ?_; rotate_left; (go_simp; with_reducible rfl); simp only [Act.put, List.setIfInBounds_toArray, List.set_cons_zero, List.set_cons_succ]
    refine wpAnyK_pure 14 (v := ?_) (i := 1) (fuel := 9) rfl rfl (by kernel_rfl) (by kernel_rfl) (by kernel_rfl) (by decide) (fun _ _ _ h => h) (Or.inl ⟨by rfl, fun w _ => ?_⟩) ?_; rotate_left; (go_simp; with_reducible rfl); simp only [Act.put, List.setIfInBounds_toArray, List.set_cons_zero, List.set_cons_succ]
    refine wpAnyK_pure 15 (v := ?_) (i := 2) (fuel := 8) rfl rfl (by kernel_rfl) (by kernel_rfl) (by kernel_rfl) (by decide) (fun _ _ _ h => h) (Or.inl ⟨by rfl, fun w _ => ?_⟩) ?_; rotate_left; (go_simp; with_reducible rfl); simp only [Act.put, List.setIfInBounds_toArray, List.set_cons_zero, List.set_cons_succ]
    refine wpAnyK_load 16 (i := 3) (fuel := 7) rfl rfl (by kernel_rfl) (by kernel_rfl) (by kernel_rfl) (.inl (by kernel_rfl)) (by decide) (fun _ _ _ h => h) rfl (fun w h => ex_loadv h _ _ rfl _ _ rfl) ?_; simp only [Act.put, List.setIfInBounds_toArray, List.set_cons_zero, List.set_cons_succ]
    refine wpAnyK_pure 17 (v := ?_) (i := 4) (fuel := 6) rfl rfl (by kernel_rfl) (by kernel_rfl) (by kernel_rfl) (by decide) (fun _ _ _ h => h) (Or.inl ⟨by rfl, fun w _ => ?_⟩) ?_; rotate_left; (go_simp; with_reducible rfl); simp only [Act.put, List.setIfInBounds_toArray, List.set_cons_zero, List.set_cons_succ]
    refine wpAnyK_pure 18 (v := ?_) (i := 5) (fuel := 5) rfl rfl (by kernel_rfl) (by kernel_rfl) (by kernel_rfl) (by decide) (fun _ _ _ h => h) (Or.inl ⟨by rfl, fun w _ => ?_⟩) ?_; rotate_left; (go_simp; with_reducible rfl); simp only [Act.put, List.setIfInBounds_toArray, List.set_cons_zero, List.set_cons_succ]
    refine wpAnyK_pure 19 (v := ?_) (i := 6) (fuel := 4) rfl rfl (by kernel_rfl) (by kernel_rfl) (by kernel_rfl) (by decide) (fun _ _ _ h => h) (Or.inl ⟨by rfl, fun w _ => ?_⟩) ?_; rotate_left; (go_simp; with_reducible rfl); simp only [Act.put, List.setIfInBounds_toArray, List.set_cons_zero, List.set_cons_succ]
    refine wpAnyK_load 20 (i := 7) (fuel := 3) rfl rfl (by kernel_rfl) (by kernel_rfl) (by kernel_rfl) (.inl (by kernel_rfl)) (by decide) (fun _ _ _ h => h) rfl (fun w h => ex_loadv h _ _ rfl _ _ rfl) ?_; simp only [Act.put, List.setIfInBounds_toArray, List.set_cons_zero, List.set_cons_succ]
    refine wpAnyK_pure 21 (v := ?_) (i := 8) (fuel := 2) rfl rfl (by kernel_rfl) (by kernel_rfl) (by kernel_rfl) (by decide) (fun _ _ _ h => h) (Or.inl ⟨by rfl, fun w _ => ?_⟩) ?_; rotate_left; (go_simp; with_reducible rfl); simp only [Act.put, List.setIfInBounds_toArray, List.set_cons_zero, List.set_cons_succ]
    refine wpAnyK_load 22 (i := 9) (fuel := 1) rfl rfl (by kernel_rfl) (by kernel_rfl) (by kernel_rfl) (.inl (by kernel_rfl)) (by decide) (fun _ _ _ h => h) rfl (fun w h => ex_load_at _ _ rfl b (off + sent * 2) rfl (fac f) rfl (hel (h.sl (some ⟨b, off, none⟩) fates.length fc))) ?_; simp only [Act.put, List.setIfInBounds_toArray, List.set_cons_zero, List.set_cons_succ]
    refine wpAnyK_one (i := 10) (fuel := 0) rfl (by kernel_rfl) rfl (fun K hK => ?_)
    refine op_runs none rfl (ex_store h _ _ _ rfl _ _ rfl _ rfl) ?_; clear h; rintro _ w ⟨rfl, h⟩; refine hK.out _ _ (SJ.past (by kernel_rfl)) ?_; clear hK K
    try simp only [Act.put, List.setIfInBounds_toArray, List.set_cons_zero, List.set_cons_succ]
    refine wpAnyK_done (by kernel_rfl) ?_
    go_wp2
    refine bodyPost_ret (res_cell1 rfl rfl (h.loadVar 102 gf 0)) rfl ?_
    have h2 : St S w0 w (LKP g ⟨some ⟨b, off, none⟩, fc, wA, wc⟩ ⟨fates, sent, wait⟩ F) := h.to
    exact ⟨rfl, h2.lkShut⟩
  · have hf : fateM ⟨fates, sent, wait⟩ = (1, 0) := by simp [fateM, List.getD, Nat.not_lt.1 hk]
    rw [hf]
    have f1 : ¬ (sent : Int) < (fates.length : Int) := by omega
    clear hf
    go_enter Try.func44, Try.ntmps44
    go_upto_region 1 with (first | (refine wl_runs rfl (ex_alloc h 102 rfl) ?_; clear h; rintro _ w ⟨gf, rfl, h⟩))
    refine wp_region_K 10 (fun w' => St _ _ w' _) (by kernel_rfl) h.drew ?_; replace h := h.drew
    refine wpAnyK_pure 3 (v := ?_) (i := 0) (fuel := 9) rfl rfl (by kernel_rfl) (by kernel_rfl) (by kernel_rfl) (by decide) (fun _ _ _ h => h) (Or.inl ⟨by rfl, fun w _ => ?_⟩) ?_; rotate_left; (go_simp; with_reducible rfl); simp only [Act.put, List.setIfInBounds_toArray, List.set_cons_zero, List.set_cons_succ]
    refine wpAnyK_pure 4 (v := ?_) (i := 1) (fuel := 8) rfl rfl (by kernel_rfl) (by kernel_rfl) (by kernel_rfl) (by decide) (fun _ _ _ h => h) (Or.inl ⟨by rfl, fun w _ => ?_⟩) ?_; rotate_left; (go_simp; with_reducible rfl); simp only [Act.put, List.setIfInBounds_toArray, List.set_cons_zero, List.set_cons_succ]
    refine wpAnyK_pure 5 (v := ?_) (i := 2) (fuel := 7) rfl rfl (by kernel_rfl) (by kernel_rfl) (by kernel_rfl) (by decide) (fun _ _ _ h => h) (Or.inl ⟨by rfl, fun w _ => ?_⟩) ?_; rotate_left; (go_simp; with_reducible rfl); simp only [Act.put, List.setIfInBounds_toArray, List.set_cons_zero, List.set_cons_succ]
    refine wpAnyK_load 6 (i := 3) (fuel := 6) rfl rfl (by kernel_rfl) (by kernel_rfl) (by kernel_rfl) (.inr (by decide)) (by decide) (fun _ _ _ h => h) rfl (fun w h => ex_loadv h _ _ rfl _ _ rfl) ?_; simp only [Act.put, List.setIfInBounds_toArray, List.set_cons_zero, List.set_cons_succ]
    refine wpAnyK_pure 7 (v := ?_) (i := 4) (fuel := 5) rfl rfl (by kernel_rfl) (by kernel_rfl) (by kernel_rfl) (by decide) (fun _ _ _ h => h) (Or.inl ⟨by rfl, fun w _ => ?_⟩) ?_; rotate_left; (go_simp; with_reducible rfl); simp only [Act.put, List.setIfInBounds_toArray, List.set_cons_zero, List.set_cons_succ]
    refine wpAnyK_pure 8 (v := ?_) (i := 5) (fuel := 4) rfl rfl (by kernel_rfl) (by kernel_rfl) (by kernel_rfl) (by decide) (fun _ _ _ h => h) (Or.inl ⟨by rfl, fun w _ => ?_⟩) ?_; rotate_left; (go_simp; with_reducible rfl); simp only [Act.put, List.setIfInBounds_toArray, List.set_cons_zero, List.set_cons_succ]
    refine wpAnyK_pure 9 (v := ?_) (i := 6) (fuel := 3) rfl rfl (by kernel_rfl) (by kernel_rfl) (by kernel_rfl) (by decide) (fun _ _ _ h => h) (Or.inl ⟨by rfl, fun w _ => ?_⟩) ?_; rotate_left; (go_simp; with_reducible rfl); simp only [Act.put, List.setIfInBounds_toArray, List.set_cons_zero, List.set_cons_succ]
    refine wpAnyK_load 10 (i := 7) (fuel := 2) rfl rfl (by kernel_rfl) (by kernel_rfl) (by kernel_rfl) (.inr (by decide)) (by decide) (fun _ _ _ h => h) rfl (fun w h => ex_loadv h _ _ rfl _ _ rfl) ?_; simp only [Act.put, List.setIfInBounds_toArray, List.set_cons_zero, List.set_cons_succ]
    refine wpAnyK_pure 11 (v := ?_) (i := 8) (fuel := 1) rfl rfl (by kernel_rfl) (by kernel_rfl) (by kernel_rfl) (by decide) (fun _ _ _ h => h) (Or.inl ⟨by rfl, fun w _ => ?_⟩) ?_; rotate_left; (go_simp; with_reducible rfl); simp only [Act.put, List.setIfInBounds_toArray, List.set_cons_zero, List.set_cons_succ]
    refine wpAnyK_pure 12 (v := ?_) (i := 9) (fuel := 0) rfl rfl (by kernel_rfl) (by kernel_rfl) (by kernel_rfl) (by decide) (fun _ _ _ h => h) (Or.inl ⟨by rfl, fun w _ => ?_⟩) ?_; rotate_left; (go_simp; with_reducible rfl); simp only [Act.put, List.setIfInBounds_toArray, List.set_cons_zero, List.set_cons_succ]
    refine wpAnyK_done (by kernel_rfl) ?_
    go_wp2_with (first
      | (refine wl_reads rfl (ex_lit _ _ rfl [(0, .int .i64 1)] rfl) ?_)
      | (refine wl_runs rfl (ex_store h _ _ _ rfl _ _ rfl (c_api_Fate (.int .i64 1) (.int .i64 0)) rfl) ?_; clear h; rintro _ w ⟨rfl, h⟩; try dsimp only [Act.put]))
    refine bodyPost_ret (res_cell1 rfl rfl (h.loadVar 102 gf 0)) rfl ?_
    have h2 : St S w0 w (LKP g ⟨fA, fc, wA, wc⟩ ⟨fates, sent, wait⟩ F) := h.to
    exact ⟨rfl, h2.lkShut⟩
set_option maxRecDepth 100000 in
set_option maxHeartbeats 1000000 in
theorem lk_receive0 {S : Nat → Prop} {w0 w : World} {L F : List Ent} {g : Nat} {k : LkAt} {s : Lk} (h : St S w0 w L) [sl : SlotL L g k s F] (h0 : s.wait = []) :
    Calls Try.prog 28 #[.pointer (some ⟨g, 0, none⟩)] w fun e w' => e = .returned (.tuple #[.slice none 0 0, .bool false]) ∧ w' = w := by
  have hl := Lib.hid (show s.wait.length = 0 by rw [h0]; rfl)
  clear h0
  go_enter Try.func28, Try.ntmps28
  go_wp2_with (first | (go_at_call 30; refine (lk_waiting (g := g) h).mono ?_; rw [hl.out]; rintro e w ⟨rfl, rfl⟩))
  go_ret2
  exact ⟨rfl, rfl⟩
set_option maxRecDepth 100000 in
set_option maxHeartbeats 1000000 in
theorem lk_receive1r {S : Nat → Prop} {w0 w : World} {L F : List Ent} {g : Nat} {k : LkAt} {fates : List Fa} {sent : Nat} {x : Mg} {p : List Mg} (h : St S w0 w L) [sl : SlotL L g k ⟨fates, sent, x :: p⟩ F] (hb : x.body.length ≤ 1000000) (hpl : p.length ≤ 1000000) :
    Calls Try.prog 28 #[.pointer (some ⟨g, 0, none⟩)] w fun e w' => ∃ A c k', e = .returned (.tuple #[.slice A x.body.length c, .bool true]) ∧ k'.fA = k.fA ∧ St S w0 w' (eOwn 5 1 A x.body.length c (u8s x.body) :: eLk g k' ⟨fates, sent, p⟩ :: F) := by
  have hw := h
  replace h := h.lkOpen g
  obtain ⟨fA, fc, wA, wc⟩ := k
  simp only [LKP, lkc, List.length_cons] at h
  have hle := (h.sl wA (p.length + 1) wc).le
  have hcap : wc ≤ 9223372036854775807 := by have := (h.sl wA (p.length + 1) wc).cap; simpa [maxLen] using this
  obtain ⟨b, off, rfl, _⟩ := (h.sl wA (p.length + 1) wc).pos (by omega)
  have hel : ∀ {w}, Sl w (some ⟨b, off, none⟩) (p.length + 1) wc 2 ((x :: p).flatMap mgc) → Cells w b off (mgc x) := fun hs => by
    have := hs.elemAt (k := 0) mgc_length (by simp) (by omega)
    simpa using this
  have hr : Row (mgc x) 2 := c_lossy_message.row _ _
  have f1 : ((p.length : Int) + 1 == 0) = false := by simp; omega
  have f2 : (0 : Int) < (p.length : Int) + 1 := by omega
  have f3 : 0 < p.length + 1 := by omega
  have hcast : ((p.length + 1 : Nat) : Int) = (p.length : Int) + 1 := by omega
  have f4 : (1 : Int) ≤ (p.length : Int) + 1 := by omega
  have f5 : 1 ≤ p.length + 1 := by omega
  have f6 : (p.length : Int) + 1 ≤ (wc : Int) := by omega
  have f7 : (1 : Int) ≤ (wc : Int) := by omega
  have f8 : 1 ≤ wc := by omega
  have e1 : ((x :: p).flatMap mgc).drop (1 * 2) = p.flatMap mgc := by simp [mgc, c_lossy_message]
  have He1 := Lib.hid e1
  have Hn := Lib.hid (show p.length + 1 - 1 = p.length by omega)
  clear e1
  have t1 := True.intro
  by_cases hw1 : wc = 1
  · have hw2 : wc = 1 := hw1
    go_enter Try.func28, Try.ntmps28
    go_wp2_with (first
      | (clear t1; go_at_call 30; refine (lk_waiting (g := g) hw).mono ?_; clear hw; simp only [List.length_cons]; rintro e w ⟨rfl, rfl⟩)
      | (refine wl_runs rfl (ex_alloc h 107 rfl) ?_; clear h; rintro _ w ⟨gm, rfl, h⟩)
      | (refine wl_at 13 rfl ?_; refine wl_reads rfl (ex_load_at _ _ rfl b off rfl (mgc x) rfl (hel (h.sl (some ⟨b, off, none⟩) (p.length + 1) wc))) ?_)
      | (refine wl_runs rfl (ex_store h _ _ _ rfl _ _ rfl (mgc x) rfl) ?_; clear h; rintro _ w ⟨rfl, h⟩; try dsimp only [Act.put])
      | (refine wl_runs rfl (ex_store1s h _ _ _ rfl g 2 rfl _ _ _ rfl) ?_; clear h; rintro _ w ⟨rfl, h⟩; try dsimp only [Act.put])
      | (go_at_call 45; have hb2 : St S w0 w (eSl x.A x.body.length x.c 1 (u8s x.body) :: _) := h.poolGet ((x :: p).map mgp) (s := mgp x) (by simp); refine (clone_bytes (A := x.A) (n := x.body.length) (c := x.c) (xs := x.body) hb2 (by omega)).mono ?_; clear hb2; clear h; rintro e w ⟨A1, c1, rfl, h⟩)
      | (refine wl_reads rfl (ex_loadv h _ _ rfl _ _ rfl) ?_))
    go_ret2
    have h2 := h.dropRow (some ⟨b, off, none⟩) 1 f5
    rw [He1.out, Hn.out, if_pos hw1, show wc - 1 = 0 by omega] at h2
    have h3 : St S w0 w (eSls ((x :: p).map mgp) :: eBlk g 86 (c_lossy_Link (.slice fA fates.length fc) (.int .i64 (sent : Int)) (.slice (some ⟨b, off, none⟩) p.length 0) (.bool true)) :: eSl fA fates.length fc 2 (fates.flatMap fac) :: eOwn 107 2 (some ⟨b, off, none⟩) p.length 0 (p.flatMap mgc) :: eOwn 5 1 A1 x.body.length c1 (u8s x.body) :: F) := h2.to
    have h4 := h3.poolSub (ss' := p.map mgp) (fun y hy => by simp only [List.map_cons]; exact List.mem_cons_of_mem _ hy)
    have h5 : St S w0 w (LKP g ⟨fA, fc, some ⟨b, off, none⟩, 0⟩ ⟨fates, sent, p⟩ (eOwn 5 1 A1 x.body.length c1 (u8s x.body) :: F)) := h4.to
    exact ⟨A1, c1, _, rfl, rfl, h5.lkShut.perm (.swap _ _ _)⟩
  · have hw2 : ¬ wc = 1 := hw1
    go_enter Try.func28, Try.ntmps28
    go_wp2_with (first
      | (clear t1; go_at_call 30; refine (lk_waiting (g := g) hw).mono ?_; clear hw; simp only [List.length_cons]; rintro e w ⟨rfl, rfl⟩)
      | (refine wl_runs rfl (ex_alloc h 107 rfl) ?_; clear h; rintro _ w ⟨gm, rfl, h⟩)
      | (refine wl_at 13 rfl ?_; refine wl_reads rfl (ex_load_at _ _ rfl b off rfl (mgc x) rfl (hel (h.sl (some ⟨b, off, none⟩) (p.length + 1) wc))) ?_)
      | (refine wl_runs rfl (ex_store h _ _ _ rfl _ _ rfl (mgc x) rfl) ?_; clear h; rintro _ w ⟨rfl, h⟩; try dsimp only [Act.put])
      | (refine wl_runs rfl (ex_store1s h _ _ _ rfl g 2 rfl _ _ _ rfl) ?_; clear h; rintro _ w ⟨rfl, h⟩; try dsimp only [Act.put])
      | (go_at_call 45; have hb2 : St S w0 w (eSl x.A x.body.length x.c 1 (u8s x.body) :: _) := h.poolGet ((x :: p).map mgp) (s := mgp x) (by simp); refine (clone_bytes (A := x.A) (n := x.body.length) (c := x.c) (xs := x.body) hb2 (by omega)).mono ?_; clear hb2; clear h; rintro e w ⟨A1, c1, rfl, h⟩)
      | (refine wl_reads rfl (ex_loadv h _ _ rfl _ _ rfl) ?_))
    go_ret2
    have h2 := h.dropRow (some ⟨b, off, none⟩) 1 f5
    rw [He1.out, Hn.out, if_neg hw1, Option.map_some, add_none] at h2
    have h3 : St S w0 w (eSls ((x :: p).map mgp) :: eBlk g 86 (c_lossy_Link (.slice fA fates.length fc) (.int .i64 (sent : Int)) (.slice (some ⟨b, off + 2, none⟩) p.length (wc - 1)) (.bool true)) :: eSl fA fates.length fc 2 (fates.flatMap fac) :: eOwn 107 2 (some ⟨b, off + 2, none⟩) p.length (wc - 1) (p.flatMap mgc) :: eOwn 5 1 A1 x.body.length c1 (u8s x.body) :: F) := h2.to
    have h4 := h3.poolSub (ss' := p.map mgp) (fun y hy => by simp only [List.map_cons]; exact List.mem_cons_of_mem _ hy)
    have h5 : St S w0 w (LKP g ⟨fA, fc, some ⟨b, off + 2, none⟩, wc - 1⟩ ⟨fates, sent, p⟩ (eOwn 5 1 A1 x.body.length c1 (u8s x.body) :: F)) := h4.to
    exact ⟨A1, c1, _, rfl, rfl, h5.lkShut.perm (.swap _ _ _)⟩
theorem lk_receive1 {S : Nat → Prop} {w0 w : World} {L F : List Ent} {g : Nat} {k : LkAt} {fates : List Fa} {sent : Nat} {x : Mg} {p : List Mg} (h : St S w0 w L) [sl : SlotL L g k ⟨fates, sent, x :: p⟩ F] (hb : x.body.length ≤ 1000000) (hpl : p.length ≤ 1000000) :
    Calls Try.prog 28 #[.pointer (some ⟨g, 0, none⟩)] w fun e w' => ∃ A c k', e = .returned (.tuple #[.slice A x.body.length c, .bool true]) ∧ St S w0 w' (eOwn 5 1 A x.body.length c (u8s x.body) :: eLk g k' ⟨fates, sent, p⟩ :: F) :=
  (lk_receive1r h hb hpl).mono fun _ _ ⟨A, c, k', h1, _, h2⟩ => ⟨A, c, k', h1, h2⟩
end Go.Proofs.Ythnjfpjojmcccaa
