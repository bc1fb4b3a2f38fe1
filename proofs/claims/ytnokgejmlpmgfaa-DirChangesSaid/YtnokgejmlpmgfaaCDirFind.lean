/- An entry found: the code. -/
import Derived.Test.YtnokgejmlpmgfaaCAllEnt
import Derived.Test.YtnokgejmlpmgfaaCDirWithM
import Derived.Test.YtnokgejmlpmgfaaCB1
import Derived.Test.YtnokgejmlpmgfaaCB2
namespace Go.Proofs.Ytnokgejmlpmgfaa
open Go.RowKit Go.Shelf
set_option linter.unusedVariables false
set_option linter.unusedSimpArgs false

theorem allL_at {l : List En} {pre : List (Nat × En)} {x : Nat × En} (h : pre ++ [x] <+: allL l) : ∃ hl : pre.length < l.length, x.1 = pre.length ∧ x.2 = l[pre.length] := by
  have hle := h.length_le
  rw [allL_length] at hle
  simp only [List.length_append, List.length_cons, List.length_nil] at hle
  have hl : pre.length < l.length := by omega
  have e := h.getElem (i := pre.length) (by simp)
  rw [List.getElem_concat_length rfl] at e
  rw [allL_get l _ hl] at e
  exact ⟨hl, by rw [e], by rw [e]⟩
theorem allL_pre {l : List En} {pre : List (Nat × En)} (h : pre <+: allL l) {j : Nat} (hj : j < pre.length) : ∃ hl : j < l.length, pre[j].2 = l[j] := by
  have hle := h.length_le
  rw [allL_length] at hle
  have hl : j < l.length := by omega
  have e := h.getElem (i := j) hj
  rw [allL_get l _ hl] at e
  exact ⟨hl, by rw [e]⟩
theorem find_stop {l : List En} {n : List UInt8} {pre : List (Nat × En)} {x : Nat × En} (hp : pre ++ [x] <+: allL l) (hno : ∀ p ∈ pre, p.2.name ≠ n) (hx : x.2.name = n) : FirstE l n x.1 := by
  obtain ⟨hl, e1, e2⟩ := allL_at hp
  obtain ⟨x1, x2⟩ := x
  simp only at e1 e2 hx ⊢
  subst e1
  refine ⟨hl, by rw [← e2]; exact hx, fun j hj hji => ?_⟩
  obtain ⟨hl2, e3⟩ := allL_pre ((List.prefix_append pre _).trans hp) hji
  rw [← e3]
  exact hno _ (List.getElem_mem hji)
theorem find_done {l : List En} {n : List UInt8} (hno : ∀ p ∈ allL l, p.2.name ≠ n) : ∀ x ∈ l, x.name ≠ n := fun x hx => by
  obtain ⟨j, hj, rfl⟩ := List.getElem_of_mem hx
  have := hno ((allL l)[j]'(by rw [allL_length]; exact hj)) (List.getElem_mem _)
  rw [allL_get l j hj] at this
  exact this
def FindM (ga : Nat) (n : List UInt8) (l : List En) (F : List Ent) (pre : List (Nat × En)) (L : List Ent) : Prop := pre <+: allL l ∧ (∀ p ∈ pre, p.2.name ≠ n) ∧ L = eBlk ga 3 [.int .i64 (-1)] :: F
def FindMx (ga : Nat) (n : List UInt8) (l : List En) (F : List Ent) (c : Code) (pre : List (Nat × En)) (L : List Ent) : Prop := c = .exit 0 ∧ ∃ i, FirstE l n i ∧ L = eBlk ga 3 [.int .i64 (i : Int)] :: F
def FindAx (ga : Nat) (n : List UInt8) (l : List En) (F : List Ent) (t : Array Value) (pre : List (Nat × En)) (x : Nat × En) (a' : Act) (L : List Ent) : Prop := ∃ g8, a' = { tmps := (((t.setIfInBounds 11 (.int .i64 (x.1 : Int))).setIfInBounds 12 (.agg (enK x.2).toArray)).setIfInBounds 7 (.int .i64 (x.1 : Int))).setIfInBounds 8 (.pointer (some ⟨g8, 0, none⟩)), defers := [] } ∧ pre <+: allL l ∧ (∀ p ∈ pre, p.2.name ≠ n) ∧ L = eBlk g8 87 (enK x.2) :: eBlk ga 3 [.int .i64 (-1)] :: F
attribute [local go_sem] Oper.semAt_some
set_option maxRecDepth 100000 in
set_option maxHeartbeats 2000000 in
theorem find_code {S : Nat → Prop} {w0 w : World} {L F : List Ent} {A : Option Addr} {c : Nat} {l : List En} {n : List UInt8} (h : St S w0 w L) [ka : Slot L (eSl A l.length c 100 (l.flatMap enK)) F] (hl : l.length ≤ 1000) :
    Calls Try.prog 40 #[.slice A l.length c, .string (str n)] w fun e w' => ((∃ i, FirstE l n i ∧ e = .returned (.tuple #[.int .i64 (i : Int), .bool true])) ∨ ((∀ x ∈ l, x.name ≠ n) ∧ e = .returned (.tuple #[.int .i64 0, .bool false]))) ∧ St S w0 w' L := by
  replace h := h.perm ka.perm
  refine callsIn_wide.1 (callsIn_of_wp_marks (F := Fence.wide) (n := 3) Try.func40 rfl trivial ?_ rfl)
  simp only [Try.ntmps40, List.size_toArray, List.length_cons, List.length_nil, Nat.reduceAdd, Nat.reduceSub, Array.replicate_succ, Array.replicate_zero, List.push_toArray, List.append_toArray, List.nil_append, List.cons_append]
  refine wpIn_wide.2 ?_
  go_wp2_with (first
    | (refine wl_runs rfl (ex_box1t h 9 _ rfl (str n) rfl) ?_; clear h; rintro _ w ⟨gn, rfl, h⟩))
  go_step3
  go_wp2_with (first
    | (refine wl_runs rfl (ex_alloc h 3 rfl) ?_; clear h; rintro _ w ⟨ga, rfl, h⟩)
    | (refine wl_runs rfl (ex_store1i h _ _ _ rfl _ _ rfl _ _ rfl) ?_; clear h; rintro _ w ⟨rfl, h⟩; try dsimp only [Act.put]))
  go_step3
  go_wp2_with (first
    | (go_at_call 86; refine (all_make h).mono ?_; clear h; rintro e w ⟨gb, rfl, h⟩))
  replace h : St S w0 w (AL gb A c l [] ++ (eBlk ga 3 [.int .i64 (-1)] :: eBlk gn 9 [.string (str n)] :: F)) := St.to (L' := eBlk gb 22 [.slice A l.length c] :: eSl A l.length c 100 (l.flatMap enK) :: eBlk ga 3 [.int .i64 (-1)] :: eBlk gn 9 [.string (str n)] :: F) h
  refine wp_iter rfl (enters_of Try.func112 (by kernel_rfl) rfl) (all_iters (by omega)) (fun _ => rfl) h (FindM ga n l (eBlk gn 9 [.string (str n)] :: F)) (FindMx ga n l (eBlk gn 9 [.string (str n)] :: F)) (FindAx ga n l (eBlk gn 9 [.string (str n)] :: F)) ⟨List.nil_prefix, fun _ h => (by cases h), rfl⟩ ?assign ?body ?done ?stop
  case assign =>
    rintro l' T X O R' pre x L W ⟨hpr, hno, rfl⟩ _ h
    have hrx : Row (enK x.2) 100 := enK_row x.2
    rw [zip2]
    simp only [List.setIfInBounds_toArray, List.set_cons_succ, List.set_cons_zero]
    gi_wp2_with (first
      | (refine wi_runs rfl (ex_alloc h 87 rfl) ?_; clear h; rintro _ w ⟨g8, rfl, h⟩)
      | (refine wi_runs rfl (ex_store h _ _ _ rfl _ _ rfl (enK x.2) rfl) ?_; clear h; rintro _ w ⟨rfl, h⟩; try dsimp only [Act.put]))
    exact ⟨_, ⟨g8, rfl, hpr, hno, rfl⟩, h.to⟩
  case body =>
    rintro l' T X O R' pre x a' L W W2 ⟨g8, rfl, hpr, hno, rfl⟩ hok h
    simp only [List.setIfInBounds_toArray, List.set_cons_succ, List.set_cons_zero]
    obtain ⟨x1, xb, xn, xk, xi, xy, xr, xe⟩ := x
    have r1 : Row (u8s xb.1) 32 := Row.u32 xb
    have r2 : Row (u8s xi.1) 32 := Row.u32 xi
    have r3 : Row (u8s xy.1) 32 := Row.u32 xy
    have Hok := Lib.hid hok
    clear hok hpr
    by_cases hx : xn = n
    · have hst : ((str xn).toList == (str n).toList) = true := by rw [hx]; simp
      have hF := find_stop Hok.out hno hx
      clear hx
      gi_wp2_with (first
        | (refine wi_runs rfl (ex_store1i h _ _ _ rfl _ _ rfl _ _ rfl) ?_; clear h; rintro _ w ⟨rfl, h⟩; try dsimp only [Act.put])
        | (refine wi_reads rfl (ex_loadv h _ _ rfl _ _ rfl) ?_))
      exact ⟨_, ⟨rfl, _, hF, rfl⟩, h.to⟩
    · have hst : ((str xn).toList == (str n).toList) = false := by rw [str_toList, str_toList]; simpa using hx
      gi_wp2_with (first | (refine wi_reads rfl (ex_loadv h _ _ rfl _ _ rfl) ?_))
      refine ⟨_, ⟨Hok.out, fun p hp => ?_, rfl⟩, h.to⟩
      rcases List.mem_append.1 hp with hp | hp
      · exact hno p hp
      · rw [List.mem_singleton.1 hp]
        exact hx
  case done =>
    rintro D9 pre L Lf W ⟨hpr, hno, rfl⟩ ⟨rfl, hp⟩ h
    obtain rfl := hp rfl
    have hall := find_done hno
    clear hpr hno hp
    replace h : St S w0 W (eDfr D9 :: eBlk gb 22 [.slice A l.length c] :: eSl A l.length c 100 (l.flatMap enK) :: eBlk ga 3 [.int .i64 (-1)] :: eBlk gn 9 [.string (str n)] :: F) := h
    go_upto_region 7 with (fail)
    refine wp_nopanic ?_
    refine wp_region_K 6 (fun w' => St _ _ w' _) (by kernel_rfl) h.drew ?_; replace h := h.drew
    refine wpAnyK_load 18 (i := 0) (fuel := 5) rfl rfl (by kernel_rfl) (by kernel_rfl) (by kernel_rfl) (.inr (by decide)) (by decide) (fun _ _ _ h => h) rfl (fun w h => ex_load1 h _ _ rfl _ _ rfl) ?_; simp only [Act.put, List.setIfInBounds_toArray, List.set_cons_zero, List.set_cons_succ]
    refine wpAnyK_pure 19 (v := ?_) (i := 1) (fuel := 4) rfl rfl (by kernel_rfl) (by kernel_rfl) (by kernel_rfl) (by decide) (fun _ _ _ h => h) (Or.inl ⟨by rfl, fun w _ => ?_⟩) ?_; rotate_left; (go_simp; with_reducible rfl); simp only [Act.put, List.setIfInBounds_toArray, List.set_cons_zero, List.set_cons_succ]
    refine wpAnyK_load 20 (i := 2) (fuel := 3) rfl rfl (by kernel_rfl) (by kernel_rfl) (by kernel_rfl) (.inr (by decide)) (by decide) (fun _ _ _ h => h) rfl (fun w h => ex_load1 h _ _ rfl _ _ rfl) ?_; simp only [Act.put, List.setIfInBounds_toArray, List.set_cons_zero, List.set_cons_succ]
    refine wpAnyK_pure 21 (v := ?_) (i := 3) (fuel := 2) rfl rfl (by kernel_rfl) (by kernel_rfl) (by kernel_rfl) (by decide) (fun _ _ _ h => h) (Or.inl ⟨by rfl, fun w _ => ?_⟩) ?_; rotate_left; (go_simp; with_reducible rfl); simp only [Act.put, List.setIfInBounds_toArray, List.set_cons_zero, List.set_cons_succ]
    refine wpAnyK_pure 4 (v := ?_) (i := 4) (fuel := 1) rfl rfl (by kernel_rfl) (by kernel_rfl) (by kernel_rfl) (by decide) (fun _ _ _ h => h) (Or.inl ⟨by rfl, fun w _ => ?_⟩) ?_; rotate_left; (go_simp; with_reducible rfl); simp only [Act.put, List.setIfInBounds_toArray, List.set_cons_zero, List.set_cons_succ]
    refine wpAnyK_pure 5 (v := ?_) (i := 5) (fuel := 0) rfl rfl (by kernel_rfl) (by kernel_rfl) (by kernel_rfl) (by decide) (fun _ _ _ h => h) (Or.inl ⟨by rfl, fun w _ => ?_⟩) ?_; rotate_left; (go_simp; with_reducible rfl); simp only [Act.put, List.setIfInBounds_toArray, List.set_cons_zero, List.set_cons_succ]
    refine wpAnyK_done (by kernel_rfl) ?_; rw [noPanic_normal]
    go_wp2
    refine ret_mark (h.dfr (D := D9)) rfl (results_tmp2 rfl _ _ _) ⟨.inr ⟨hall, rfl⟩, ?_⟩
    exact ((h.putDfr (D := D9)).to (L' := eSl A l.length c 100 (l.flatMap enK) :: F)).perm ka.perm.symm
  case stop =>
    rintro D9 c' pre L Lf W ⟨rfl, i, hF, rfl⟩ ⟨rfl, hp⟩ h
    clear hp
    replace h : St S w0 W (eDfr D9 :: eBlk gb 22 [.slice A l.length c] :: eSl A l.length c 100 (l.flatMap enK) :: eBlk ga 3 [.int .i64 (i : Int)] :: eBlk gn 9 [.string (str n)] :: F) := h
    have hmx : (if (i : Int) < 0 then 0 else (i : Int)) = (i : Int) := by rw [if_neg (by omega)]
    have f1 : (0 : Int) ≤ (i : Int) := by omega
    go_wp2
    go_upto_region 7 with (fail)
    refine wp_nopanic ?_
    refine wp_region_K 6 (fun w' => St _ _ w' _) (by kernel_rfl) h.drew ?_; replace h := h.drew
    refine wpAnyK_load 18 (i := 0) (fuel := 5) rfl rfl (by kernel_rfl) (by kernel_rfl) (by kernel_rfl) (.inr (by decide)) (by decide) (fun _ _ _ h => h) rfl (fun w h => ex_load1 h _ _ rfl _ _ rfl) ?_; simp only [Act.put, List.setIfInBounds_toArray, List.set_cons_zero, List.set_cons_succ]
    refine wpAnyK_pure 19 (v := (.int .i64 (i : Int))) (i := 1) (fuel := 4) rfl rfl (by kernel_rfl) (by kernel_rfl) (by kernel_rfl) (by decide) (fun _ _ _ h => h) (Or.inl ⟨by rfl, fun w _ => (by go_simp)⟩) ?_; simp only [Act.put, List.setIfInBounds_toArray, List.set_cons_zero, List.set_cons_succ]
    refine wpAnyK_load 20 (i := 2) (fuel := 3) rfl rfl (by kernel_rfl) (by kernel_rfl) (by kernel_rfl) (.inr (by decide)) (by decide) (fun _ _ _ h => h) rfl (fun w h => ex_load1 h _ _ rfl _ _ rfl) ?_; simp only [Act.put, List.setIfInBounds_toArray, List.set_cons_zero, List.set_cons_succ]
    refine wpAnyK_pure 21 (v := (.bool true)) (i := 3) (fuel := 2) rfl rfl (by kernel_rfl) (by kernel_rfl) (by kernel_rfl) (by decide) (fun _ _ _ h => h) (Or.inl ⟨by rfl, fun w _ => (by go_simp)⟩) ?_; simp only [Act.put, List.setIfInBounds_toArray, List.set_cons_zero, List.set_cons_succ]
    refine wpAnyK_pure 4 (v := ?_) (i := 4) (fuel := 1) rfl rfl (by kernel_rfl) (by kernel_rfl) (by kernel_rfl) (by decide) (fun _ _ _ h => h) (Or.inl ⟨by rfl, fun w _ => ?_⟩) ?_; rotate_left; (go_simp; with_reducible rfl); simp only [Act.put, List.setIfInBounds_toArray, List.set_cons_zero, List.set_cons_succ]
    refine wpAnyK_pure 5 (v := ?_) (i := 5) (fuel := 0) rfl rfl (by kernel_rfl) (by kernel_rfl) (by kernel_rfl) (by decide) (fun _ _ _ h => h) (Or.inl ⟨by rfl, fun w _ => ?_⟩) ?_; rotate_left; (go_simp; with_reducible rfl); simp only [Act.put, List.setIfInBounds_toArray, List.set_cons_zero, List.set_cons_succ]
    refine wpAnyK_done (by kernel_rfl) ?_; rw [noPanic_normal]
    go_wp2
    refine ret_mark (h.dfr (D := D9)) rfl (results_tmp2 rfl _ _ _) ⟨.inl ⟨i, hF, rfl⟩, ?_⟩
    exact ((h.putDfr (D := D9)).to (L' := eSl A l.length c 100 (l.flatMap enK) :: F)).perm ka.perm.symm
end Go.Proofs.Ytnokgejmlpmgfaa
