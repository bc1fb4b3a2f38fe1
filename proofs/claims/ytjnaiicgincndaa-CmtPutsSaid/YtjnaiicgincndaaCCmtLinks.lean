/- What a commit links to: the program's. -/
import Derived.Test.YtjnaiicgincndaaCEnvLinks
import Derived.Test.YtjnaiicgincndaaCRefLinks
import Derived.Test.YtjnaiicgincndaaCCmtPlain
import Derived.Test.YtjnaiicgincndaaCB2
namespace Go.Proofs.Ytjnaiicgincndaa
open Go.RowKit Go.Shelf
set_option linter.unusedVariables false
set_option linter.unusedSimpArgs false

theorem links_turned (x : Id) (l : List Id) : linksM (l ++ [x]) = linksM (x :: l) :=
  links_unique (linksM_rises _) (fun z => by rw [linksM_mem]; simp [or_comm])
def CLKeep (g0 ga : Nat) (x0 : Id) (F : List Ent) (pre : List Id) (L : List Ent) : Prop := ∃ A c, L = eBlk ga 24 [.slice A (pre.length + 1) c] :: eOwn 26 32 A (pre.length + 1) c ((x0 :: pre).flatMap idc) :: F
def CLAx (g0 ga : Nat) (x0 : Id) (F : List Ent) (t : Array Value) (pre : List Id) (x : Id) (a' : Act) (L : List Ent) : Prop := ∃ g4 A c, a' = { tmps := (t.setIfInBounds 11 (.agg (u8s x.1).toArray)).setIfInBounds 4 (.pointer (some ⟨g4, 0, none⟩)), defers := [] } ∧ L = eBlk g4 26 (u8s x.1) :: eBlk ga 24 [.slice A (pre.length + 1) c] :: eOwn 26 32 A (pre.length + 1) c ((x0 :: pre).flatMap idc) :: F
set_option maxRecDepth 100000 in
set_option maxHeartbeats 1000000 in
theorem clinks_code {S : Nat → Prop} {w0 w : World} {L F : List Ent} {A : Option Addr} {c : Nat} {m : Cmt} (h : St S w0 w L) [ka : Slot L (eSl A m.pa.length c 32 (m.pa.flatMap idc)) F] (hl : m.pa.length ≤ 100000) :
    Calls Try.prog 21 #[.agg (cmtK A m.pa.length c m).toArray] w fun e w' => ∃ A1 c1, e = .returned (.slice A1 (linksM (m.root :: m.pa)).length c1) ∧ St S w0 w' (eOwn 26 32 A1 (linksM (m.root :: m.pa)).length c1 ((linksM (m.root :: m.pa)).flatMap idc) :: L) := by
  have hK : ∀ {w'} {X : Ent} {F2 : List Ent}, St S w0 w' (X :: eSl A m.pa.length c 32 (m.pa.flatMap idc) :: F) → St S w0 w' (X :: L) := fun {w' X F2} h2 => h2.perm (ka.perm.symm.cons X)
  replace h := h.perm ka.perm
  obtain ⟨pa, root, key, seq, author, text⟩ := m
  simp only at h hK hl ⊢
  have rr : Row (u8s root.1) 32 := Row.u32 root
  have rk : Row (u8s key.1) 32 := Row.u32 key
  have t1 := True.intro
  refine callsIn_wide.1 (callsIn_of_wp_marks (F := Fence.wide) (n := 3) Try.func21 rfl trivial ?_ rfl)
  simp only [Try.ntmps21, List.size_toArray, List.length_cons, List.length_nil, Nat.reduceAdd, Nat.reduceSub, Array.replicate_succ, Array.replicate_zero, List.push_toArray, List.append_toArray, List.nil_append, List.cons_append]
  refine wpIn_wide.2 ?_
  go_wp2_with (first
    | (refine wl_runs rfl (ex_box h 31 _ rfl (cmtK A pa.length c ⟨pa, root, key, seq, author, text⟩) rfl) ?_; clear h; rintro _ w ⟨g0, rfl, h⟩)
    | (refine wl_runs rfl (ex_slice1 h _ _ rfl (u8s root.1) rfl) ?_; clear h; rintro _ w ⟨gx, rfl, h⟩)
    | (clear t1; refine wl_runs rfl (ex_alloc h 24 rfl) ?_; clear h; rintro _ w ⟨ga, rfl, h⟩)
    | (refine wl_runs rfl (ex_store1s h _ _ _ rfl ga 0 rfl _ _ _ rfl) ?_; clear h; rintro _ w ⟨rfl, h⟩; try dsimp only [Act.put])
    | (go_at_call 72; refine (val_make h).mono ?_; clear h; rintro e w ⟨gb, rfl, h⟩)
    | (refine wl_reads rfl (ex_loadv h _ _ rfl _ _ rfl) ?_))
  replace h := h.blkRowK gx 1 32 rr.len (by omega)
  replace h : St S w0 w (VL gb A c pa [] ++ (eBlk ga 24 [.slice (some ⟨gx, 0, none⟩) 1 1] :: eOwn 26 32 (some ⟨gx, 0, none⟩) 1 1 (u8s root.1) :: F)) := St.to (L' := eBlk gb 24 [.slice A pa.length c] :: eSl A pa.length c 32 (pa.flatMap idc) :: eBlk ga 24 [.slice (some ⟨gx, 0, none⟩) 1 1] :: eOwn 26 32 (some ⟨gx, 0, none⟩) 1 1 (u8s root.1) :: F) h
  refine wp_iter rfl (enters_of Try.func95 (by kernel_rfl) rfl) (val_iters (by omega)) (fun _ => rfl) h (CLKeep g0 ga root F) (fun _ _ _ => False) (CLAx g0 ga root F) ⟨some ⟨gx, 0, none⟩, 1, by simp [idc]⟩ ?assign ?body ?done ?stop
  case assign =>
    rintro l' T X O R' pre x L W ⟨A, c, rfl⟩ _ h
    have hrx : Row (u8s x.1) 32 := Row.u32 x
    rw [zip1]
    simp only [u8s_idc, List.setIfInBounds_toArray, List.set_cons_succ, List.set_cons_zero]
    gi_wp2_with (first
      | (refine wi_runs rfl (ex_alloc h 26 rfl) ?_; clear h; rintro _ w ⟨g4, rfl, h⟩)
      | (refine wi_runs rfl (ex_store h _ _ _ rfl _ _ rfl (u8s x.1) rfl) ?_; clear h; rintro _ w ⟨rfl, h⟩; try dsimp only [Act.put]))
    exact ⟨_, ⟨g4, A, c, rfl, rfl⟩, h.to⟩
  case body =>
    rintro l' T X O R' pre x a' L W W2 ⟨g4, A, c, rfl, rfl⟩ hok h
    have hlen : pre.length + 1 ≤ pa.length := by
      have h1 := hok.length_le
      simpa using h1
    have hrx : Row (u8s x.1) 32 := Row.u32 x
    clear hok
    simp only [List.setIfInBounds_toArray, List.set_cons_succ, List.set_cons_zero]
    gi_wp2_with (first
      | (refine wi_runs rfl (ex_slice1 h _ _ rfl (u8s x.1) rfl) ?_; clear h; rintro _ w ⟨gx, rfl, h⟩)
      | (refine wi_runs rfl (ex_append h _ _ _ rfl A rfl (some ⟨gx, 0, none⟩) 1 1 rfl (h.slBox gx) hrx.one (by simp [maxLen]; omega) (by omega)) ?_; clear h; rintro _ w ⟨A2, c2, rfl, h⟩)
      | (refine wi_runs rfl (ex_store1s h _ _ _ rfl ga 0 rfl _ _ _ rfl) ?_; clear h; rintro _ w ⟨rfl, h⟩; try dsimp only [Act.put])
      | (refine wi_reads rfl (ex_loadv h _ _ rfl _ _ rfl) ?_))
    refine ⟨_, ⟨A2, c2, rfl⟩, ?_⟩
    have e1 : (pre ++ [x]).length = pre.length + 1 := by simp
    have e2 : (root :: (pre ++ [x])).flatMap idc = (root :: pre).flatMap idc ++ u8s x.1 := by simp [idc]
    rw [e1, e2]
    exact h.to
  case done =>
    rintro D pre L2 Lf W ⟨A2, c2, rfl⟩ ⟨rfl, hp⟩ h
    obtain rfl := hp rfl
    replace h : St S w0 W (eDfr D :: eBlk gb 24 [.slice A pre.length c] :: eSl A pre.length c 32 (pre.flatMap idc) :: eBlk ga 24 [.slice A2 (pre.length + 1) c2] :: eOwn 26 32 A2 (pre.length + 1) c2 ((root :: pre).flatMap idc) :: F) := h
    replace h := h.release A2 (by omega)
    have hrl : (root :: pre).length = pre.length + 1 := rfl
    rw [← hrl] at h
    go_wp2_with (first
      | (go_at_call 29; refine (env_links (A := A2) (n := (root :: pre).length) (c := c2) (l := root :: pre) h (by simp; omega)).mono ?_; clear h; rintro e w ⟨A3, c3, rfl, h⟩)
      | (refine wl_reads rfl (ex_loadv h _ _ rfl _ _ rfl) ?_))
    have h2 : St S w0 w (eDfr D :: eOwn 26 32 A3 (linksM (root :: pre)).length c3 ((linksM (root :: pre)).flatMap idc) :: eSl A pre.length c 32 (pre.flatMap idc) :: F) := h.to
    exact ret_mark h2.dfr rfl (results_tmp rfl _ _ _) ⟨A3, c3, rfl, hK (F2 := F) (h2.putDfr (D := D))⟩
  case stop =>
    rintro D c' pre L Lf W hx
    exact hx.elim
set_option maxRecDepth 100000 in
set_option maxHeartbeats 1000000 in
theorem clinks_ref {S : Nat → Prop} {w0 w : World} {L : List Ent} {A : Option Addr} {c : Nat} {m : Cmt} (h : St S w0 w L) [ka : HasSl L A m.pa.length c 32 (m.pa.flatMap idc)] (hl : m.pa.length ≤ 100000) :
    Calls Try.prog 22 #[.agg (cmtK A m.pa.length c m).toArray] w fun e w' => ∃ A1 c1, e = .returned (.slice A1 (linksM (m.root :: m.pa)).length c1) ∧ St S w0 w' (eOwn 26 32 A1 (linksM (m.root :: m.pa)).length c1 ((linksM (m.root :: m.pa)).flatMap idc) :: L) := by
  obtain ⟨pa, root, key, seq, author, text⟩ := m
  simp only at ka hl ⊢
  have rr : Row (u8s root.1) 32 := Row.u32 root
  have rk : Row (u8s key.1) 32 := Row.u32 key
  have Ht := Lib.hid (links_turned root pa)
  have h1 : ∀ u ∈ pa.flatMap idc, u.oneCell' = true := fun u hu => by
    obtain ⟨x, _, hu⟩ := List.mem_flatMap.1 hu
    exact idc_one x u hu
  have Hf := Lib.hid (show pa.flatMap idc ++ u8s root.1 = (pa ++ [root]).flatMap idc by simp [idc])
  have Hn := Lib.hid (show pa.length + 1 = (pa ++ [root]).length by simp)
  go_enter Try.func22, Try.ntmps22
  go_upto_region 1 with (first
    | (refine wl_runs rfl (ex_box h 31 _ rfl (cmtK A pa.length c ⟨pa, root, key, seq, author, text⟩) rfl) ?_; clear h; rintro _ w ⟨g0, rfl, h⟩))
  refine wp_region_K 9 (fun w' => St _ _ w' _) (by kernel_rfl) h.drew ?_; replace h := h.drew
  refine wpAnyK_pure 3 (v := ?_) (i := 0) (fuel := 8) rfl rfl (by kernel_rfl) (by kernel_rfl) (by kernel_rfl) (by decide) (fun _ _ _ h => h) (Or.inl ⟨by rfl, fun w _ => ?_⟩) ?_; rotate_left; (go_simp; with_reducible rfl); simp only [Act.put, List.setIfInBounds_toArray, List.set_cons_zero, List.set_cons_succ]
  refine wpAnyK_load 4 (i := 1) (fuel := 7) rfl rfl (by kernel_rfl) (by kernel_rfl) (by kernel_rfl) (.inr (by decide)) (by decide) (fun _ _ _ h => h) rfl (fun w h => ex_loadv h _ _ rfl _ _ rfl) ?_; simp only [Act.put, List.setIfInBounds_toArray, List.set_cons_zero, List.set_cons_succ]
  refine wpAnyK_pure 6 (v := ?_) (i := 3) (fuel := 6) rfl rfl (by kernel_rfl) (by kernel_rfl) (by kernel_rfl) (by decide) (fun _ _ _ h => h) (Or.inl ⟨by rfl, fun w _ => ?_⟩) ?_; rotate_left; (go_simp; with_reducible rfl); simp only [Act.put, List.setIfInBounds_toArray, List.set_cons_zero, List.set_cons_succ]
  refine wpAnyK_load 7 (i := 4) (fuel := 5) rfl rfl (by kernel_rfl) (by kernel_rfl) (by kernel_rfl) (.inr (by decide)) (by decide) (fun _ _ _ h => h) rfl (fun w h => ex_loadv h _ _ rfl _ _ rfl) ?_; simp only [Act.put, List.setIfInBounds_toArray, List.set_cons_zero, List.set_cons_succ]
  refine wpAnyK_two (i := 2) (i2 := 5) (fuel := 4) rfl rfl (by kernel_rfl) rfl rfl (fun K hK => ?_) (fun K hK => ?_)
  focus
    refine op_runs (some 5) rfl (ex_append_nil h _ _ _ rfl rfl A pa.length c rfl (h.sl A pa.length c) h1 (by simp [maxLen]; omega) (by omega)) ?_; clear h; rintro _ w ⟨A1, c1, rfl, h⟩; refine hK.out _ _ (fun _ => h.to) ?_; clear hK K
    try simp only [Act.put, List.setIfInBounds_toArray, List.set_cons_zero, List.set_cons_succ]
    refine wpAnyK_one (i := 5) (fuel := 3) rfl (by kernel_rfl) rfl (fun K hK => ?_)
    refine op_runs (some 8) rfl (ex_slice1 h _ _ rfl (u8s root.1) rfl) ?_; clear h; rintro _ w ⟨gx, rfl, h⟩; refine hK.out _ _ (fun _ => h.to) ?_; clear hK K
    try simp only [Act.put, List.setIfInBounds_toArray, List.set_cons_zero, List.set_cons_succ]
    refine wpAnyK_one (i := 6) (fuel := 2) rfl (by kernel_rfl) rfl (fun K hK => ?_)
    refine op_runs (some 9) rfl (ex_append h _ _ _ rfl A1 rfl (some ⟨gx, 0, none⟩) 1 1 rfl (h.slBox gx) rr.one (by simp [maxLen]; omega) (by omega)) ?_; clear h; rintro _ w ⟨A2, c2, rfl, h⟩; rw [Hf.out] at h; refine hK.out _ _ (fun _ => h.to) ?_; clear hK K
    try simp only [Act.put, List.setIfInBounds_toArray, List.set_cons_zero, List.set_cons_succ]
    refine wpAnyK_one (i := 7) (fuel := 1) rfl (by kernel_rfl) rfl (fun K hK => ?_)
    (go_simp; go_wp2_with (go_at_call 30; refine (ref_links (A := A2) (n := pa.length + 1) (c := c2) (l := pa ++ [root]) h (by simp; omega)).mono ?_; rw [Ht.out]; clear h; rintro e w ⟨A3, c3, rfl, h⟩)); refine hK.out _ _ (fun _ => h.to) ?_; clear hK K
    try simp only [Act.put, List.setIfInBounds_toArray, List.set_cons_zero, List.set_cons_succ]
    refine wpAnyK_pure 2 (v := ?_) (i := 8) (fuel := 0) rfl rfl (by kernel_rfl) (by kernel_rfl) (by kernel_rfl) (by decide) (fun _ _ _ h => h) (Or.inl ⟨by rfl, fun w _ => ?_⟩) ?_; rotate_left; (go_simp; with_reducible rfl); simp only [Act.put, List.setIfInBounds_toArray, List.set_cons_zero, List.set_cons_succ]
    refine wpAnyK_done (by kernel_rfl) ?_
  rotate_left 1
  focus
    refine op_runs (some 8) rfl (ex_slice1 h _ _ rfl (u8s root.1) rfl) ?_; clear h; rintro _ w ⟨gx, rfl, h⟩; refine hK.out _ _ (fun _ => h.to) ?_; clear hK K
    try simp only [Act.put, List.setIfInBounds_toArray, List.set_cons_zero, List.set_cons_succ]
    refine wpAnyK_one (i := 2) (fuel := 3) rfl (by kernel_rfl) rfl (fun K hK => ?_)
    refine op_runs (some 5) rfl (ex_append_nil h _ _ _ rfl rfl A pa.length c rfl (h.sl A pa.length c) h1 (by simp [maxLen]; omega) (by omega)) ?_; clear h; rintro _ w ⟨A1, c1, rfl, h⟩; refine hK.out _ _ (fun _ => h.to) ?_; clear hK K
    try simp only [Act.put, List.setIfInBounds_toArray, List.set_cons_zero, List.set_cons_succ]
    refine wpAnyK_one (i := 6) (fuel := 2) rfl (by kernel_rfl) rfl (fun K hK => ?_)
    refine op_runs (some 9) rfl (ex_append h _ _ _ rfl A1 rfl (some ⟨gx, 0, none⟩) 1 1 rfl (h.slBox gx) rr.one (by simp [maxLen]; omega) (by omega)) ?_; clear h; rintro _ w ⟨A2, c2, rfl, h⟩; rw [Hf.out] at h; refine hK.out _ _ (fun _ => h.to) ?_; clear hK K
    try simp only [Act.put, List.setIfInBounds_toArray, List.set_cons_zero, List.set_cons_succ]
    refine wpAnyK_one (i := 7) (fuel := 1) rfl (by kernel_rfl) rfl (fun K hK => ?_)
    (go_simp; go_wp2_with (go_at_call 30; refine (ref_links (A := A2) (n := pa.length + 1) (c := c2) (l := pa ++ [root]) h (by simp; omega)).mono ?_; rw [Ht.out]; clear h; rintro e w ⟨A3, c3, rfl, h⟩)); refine hK.out _ _ (fun _ => h.to) ?_; clear hK K
    try simp only [Act.put, List.setIfInBounds_toArray, List.set_cons_zero, List.set_cons_succ]
    refine wpAnyK_pure 2 (v := ?_) (i := 8) (fuel := 0) rfl rfl (by kernel_rfl) (by kernel_rfl) (by kernel_rfl) (by decide) (fun _ _ _ h => h) (Or.inl ⟨by rfl, fun w _ => ?_⟩) ?_; rotate_left; (go_simp; with_reducible rfl); simp only [Act.put, List.setIfInBounds_toArray, List.set_cons_zero, List.set_cons_succ]
    refine wpAnyK_done (by kernel_rfl) ?_
  rotate_left 1
  all_goals
    go_wp2
    go_ret
    exact ⟨A3, c3, rfl, h.to⟩
end Go.Proofs.Ytjnaiicgincndaa
