/- mark.Order. -/
import Derived.Test.YtionnlckjjojnaaCMarkOrd
namespace Go.Proofs.Ytionnlckjjojnaa
open Go.RowKit Go.Maps
set_option linter.unusedVariables false
set_option linter.unusedSimpArgs false

def slLen : Value → Nat
  | .slice _ n _ => n
  | _ => 0
theorem made_bool (n : Nat) : (madeCells (Value.bool false).cells (n * 1)).toList = usedV n [] := by
  apply List.ext_getElem?
  intro i
  simp only [madeCells, Value.cells, usedV, Nat.mul_one]
  by_cases h : i < n
  · simp [h, Nat.mod_one]
  · simp [h]
theorem DoneIs.next2 {os : List Ob} {dm : List (Id × Bool)} {out : List Nat} (h : DoneIs os dm out) {i : Nat} {y : Id} (v : Bool) (hi : (idsOf os)[i]? = some y) : DoneIs os (mset (mset dm y v) y true) (out ++ [i]) := fun x => by
  have := h.next hi x
  rw [mget_set] at this ⊢
  rw [mget_set]
  by_cases hx : x = y
  · rw [if_pos hx] at this ⊢
    exact this
  · rw [if_neg hx] at this ⊢
    rw [if_neg hx]
    exact this
theorem DoneIs.nil (os : List Ob) : DoneIs os [] [] := fun x => by rw [mget_nil]; simp
/-- What Order answers. -/
def ordR (os : List Ob) : List Ob × Bool := match ordM os with
  | some out => (pickM os out, true)
  | none => ([], false)
def OrdFin (S : Nat → Prop) (w0 : World) (L : List Ent) (ps : List ObAt) (e : Ending) (w' : World) : Prop := ∃ (A1 : Option Addr) (c1 : Nat) (ops : List ObAt) (b : Bool), e = .returned (.tuple #[.slice A1 ops.length c1, .bool b]) ∧ (obsM ops, b) = ordR (obsM ps) ∧ St S w0 w' (eOwn 44 34 A1 ops.length c1 (ops.flatMap obc) :: eLnk ops :: L)
set_option maxRecDepth 100000 in
set_option maxHeartbeats 40000000 in
theorem mark_order {S : Nat → Prop} {w0 w : World} {L F : List Ent} {A : Option Addr} {c : Nat} {ps : List ObAt} (h : St S w0 w L) [ka : Slot L (eObs obc A ps.length c ps) F] [kh : HasObs obc L A ps.length c ps] (hl : ps.length ≤ 1000000) (Hls : Hid (∀ p ∈ ps, p.links.length ≤ 1000000)) :
    Calls Try.prog 21 #[.slice A ps.length c] w fun e w' => OrdFin S w0 L ps e w' := by
  have hzb : (Try.prog.info? 4).map (·.zero) = some (some (.bool false)) := by kernel_rfl
  have hmk : ∀ z, (Try.prog.info? 4).map (·.zero) = some (some z) → (madeCells z.cells (ps.length * 1)).toList = usedV ps.length [] := fun z hz => by
    rw [hzb] at hz
    injection hz with hz
    injection hz with hz
    subst hz
    exact made_bool _
  have Hmk := Lib.hid hmk
  have hN : (obsM ps).length = ps.length := by simp
  have HN := Lib.hid hN
  clear hzb hmk hN
  go_enter Try.func21, Try.ntmps21
  go_upto_region 1 with fail
  refine wp_region_K 10 (fun w' => St _ _ w' _) (by kernel_rfl) h.drew ?_; replace h := h.drew
  refine wpAnyK_pure 8 (v := ?_) (i := 0) (fuel := 9) rfl rfl (by kernel_rfl) (by kernel_rfl) (by kernel_rfl) (by decide) (fun _ _ _ h => h) (Or.inl ⟨by rfl, fun w _ => ?_⟩) ?_; rotate_left; (go_simp; with_reducible rfl); simp only [Act.put, List.setIfInBounds_toArray, List.set_cons_zero, List.set_cons_succ]
  refine wpAnyK_pure 9 (v := ?_) (i := 1) (fuel := 8) rfl rfl (by kernel_rfl) (by kernel_rfl) (by kernel_rfl) (by decide) (fun _ _ _ h => h) (Or.inl ⟨by rfl, fun w _ => ?_⟩) ?_; rotate_left; (go_simp; with_reducible rfl); simp only [Act.put, List.setIfInBounds_toArray, List.set_cons_zero, List.set_cons_succ]
  refine wpAnyK_pure 12 (v := ?_) (i := 4) (fuel := 7) rfl rfl (by kernel_rfl) (by kernel_rfl) (by kernel_rfl) (by decide) (fun _ _ _ h => h) (Or.inl ⟨by rfl, fun w _ => ?_⟩) ?_; rotate_left; (go_simp; with_reducible rfl); simp only [Act.put, List.setIfInBounds_toArray, List.set_cons_zero, List.set_cons_succ]
  refine wpAnyK_pure 13 (v := ?_) (i := 5) (fuel := 6) rfl rfl (by kernel_rfl) (by kernel_rfl) (by kernel_rfl) (by decide) (fun _ _ _ h => h) (Or.inl ⟨by rfl, fun w _ => ?_⟩) ?_; rotate_left; (go_simp; with_reducible rfl); simp only [Act.put, List.setIfInBounds_toArray, List.set_cons_zero, List.set_cons_succ]
  refine wpAnyK_three (i := 2) (i2 := 3) (i3 := 6) (fuel := 5) rfl rfl rfl (by kernel_rfl) rfl rfl rfl (fun K hK => ?_) (fun K hK => ?_) (fun K hK => ?_)
  focus
    (go_simp; go_wp2_with (go_at_call 36; refine (index_code (A := A) (c := c) (ps := ps) h hl).mono ?_; clear h; rintro e w ⟨ga, mi, rfl, hmi, h⟩; have Hmi := Lib.hid hmi; clear hmi)); refine hK.out _ _ (fun _ => h.to) ?_; clear hK K
    try simp only [Act.put, List.setIfInBounds_toArray, List.set_cons_zero, List.set_cons_succ]
    refine wpAnyK_two (i := 3) (i2 := 6) (fuel := 4) rfl rfl (by kernel_rfl) rfl rfl (fun K hK => ?_) (fun K hK => ?_)
    focus
      refine op_runs (some 11) rfl (ex_mmake h _ rfl idv boV) ?_; clear h; rintro _ w ⟨gd, rfl, h⟩; refine hK.out _ _ (fun _ => h.to) ?_; clear hK K
      try simp only [Act.put, List.setIfInBounds_toArray, List.set_cons_zero, List.set_cons_succ]
      refine wpAnyK_one (i := 6) (fuel := 3) rfl (by kernel_rfl) rfl (fun K hK => ?_)
      refine op_runs (some 14) rfl (ex_make h _ _ _ rfl ps.length rfl rfl (by omega) (by simp [maxLen]; omega) (usedV ps.length []) Hmk.out) ?_; clear h; rintro _ w ⟨gU, rfl, h⟩; refine hK.out _ _ (fun _ => h.to) ?_; clear hK K
      try simp only [Act.put, List.setIfInBounds_toArray, List.set_cons_zero, List.set_cons_succ]
      refine wpAnyK_load 15 (i := 7) (fuel := 2) rfl rfl (by kernel_rfl) (by kernel_rfl) (by kernel_rfl) (.inr (by decide)) (by decide) (fun _ _ _ h => h) rfl (fun w h => ex_lit _ _ rfl [(0, .slice A ps.length c), (1, .map (some ga)), (2, .map (some gd)), (3, .slice (some ⟨gU, 0, none⟩) ps.length ps.length)] rfl) ?_; simp only [Act.put, List.setIfInBounds_toArray, List.set_cons_zero, List.set_cons_succ]
      refine wpAnyK_one (i := 8) (fuel := 1) rfl (by kernel_rfl) rfl (fun K hK => ?_)
      refine op_runs (some 16) rfl (ex_box h 71 _ rfl (plc A (some ⟨gU, 0, none⟩) ps.length c ga gd) rfl) ?_; clear h; rintro _ w ⟨gp, rfl, h⟩; refine hK.out _ _ (fun _ => h.to) ?_; clear hK K
      try simp only [Act.put, List.setIfInBounds_toArray, List.set_cons_zero, List.set_cons_succ]
      refine wpAnyK_pure 4 (v := ?_) (i := 9) (fuel := 0) rfl rfl (by kernel_rfl) (by kernel_rfl) (by kernel_rfl) (by decide) (fun _ _ _ h => h) (Or.inl ⟨by rfl, fun w _ => ?_⟩) ?_; rotate_left; (go_simp; with_reducible rfl); simp only [Act.put, List.setIfInBounds_toArray, List.set_cons_zero, List.set_cons_succ]
      refine wpAnyK_done (by kernel_rfl) ?_
    rotate_left 1
    focus
      refine op_runs (some 14) rfl (ex_make h _ _ _ rfl ps.length rfl rfl (by omega) (by simp [maxLen]; omega) (usedV ps.length []) Hmk.out) ?_; clear h; rintro _ w ⟨gU, rfl, h⟩; refine hK.out _ _ (fun _ => h.to) ?_; clear hK K
      try simp only [Act.put, List.setIfInBounds_toArray, List.set_cons_zero, List.set_cons_succ]
      refine wpAnyK_one (i := 3) (fuel := 3) rfl (by kernel_rfl) rfl (fun K hK => ?_)
      refine op_runs (some 11) rfl (ex_mmake h _ rfl idv boV) ?_; clear h; rintro _ w ⟨gd, rfl, h⟩; refine hK.out _ _ (fun _ => h.to) ?_; clear hK K
      try simp only [Act.put, List.setIfInBounds_toArray, List.set_cons_zero, List.set_cons_succ]
      refine wpAnyK_load 15 (i := 7) (fuel := 2) rfl rfl (by kernel_rfl) (by kernel_rfl) (by kernel_rfl) (.inr (by decide)) (by decide) (fun _ _ _ h => h) rfl (fun w h => ex_lit _ _ rfl [(0, .slice A ps.length c), (1, .map (some ga)), (2, .map (some gd)), (3, .slice (some ⟨gU, 0, none⟩) ps.length ps.length)] rfl) ?_; simp only [Act.put, List.setIfInBounds_toArray, List.set_cons_zero, List.set_cons_succ]
      refine wpAnyK_one (i := 8) (fuel := 1) rfl (by kernel_rfl) rfl (fun K hK => ?_)
      refine op_runs (some 16) rfl (ex_box h 71 _ rfl (plc A (some ⟨gU, 0, none⟩) ps.length c ga gd) rfl) ?_; clear h; rintro _ w ⟨gp, rfl, h⟩; refine hK.out _ _ (fun _ => h.to) ?_; clear hK K
      try simp only [Act.put, List.setIfInBounds_toArray, List.set_cons_zero, List.set_cons_succ]
      refine wpAnyK_pure 4 (v := ?_) (i := 9) (fuel := 0) rfl rfl (by kernel_rfl) (by kernel_rfl) (by kernel_rfl) (by decide) (fun _ _ _ h => h) (Or.inl ⟨by rfl, fun w _ => ?_⟩) ?_; rotate_left; (go_simp; with_reducible rfl); simp only [Act.put, List.setIfInBounds_toArray, List.set_cons_zero, List.set_cons_succ]
      refine wpAnyK_done (by kernel_rfl) ?_
    rotate_left 1
  rotate_left 2
  focus
    refine op_runs (some 11) rfl (ex_mmake h _ rfl idv boV) ?_; clear h; rintro _ w ⟨gd, rfl, h⟩; refine hK.out _ _ (fun _ => h.to) ?_; clear hK K
    try simp only [Act.put, List.setIfInBounds_toArray, List.set_cons_zero, List.set_cons_succ]
    refine wpAnyK_two (i := 2) (i2 := 6) (fuel := 4) rfl rfl (by kernel_rfl) rfl rfl (fun K hK => ?_) (fun K hK => ?_)
    focus
      (go_simp; go_wp2_with (go_at_call 36; refine (index_code (A := A) (c := c) (ps := ps) h hl).mono ?_; clear h; rintro e w ⟨ga, mi, rfl, hmi, h⟩; have Hmi := Lib.hid hmi; clear hmi)); refine hK.out _ _ (fun _ => h.to) ?_; clear hK K
      try simp only [Act.put, List.setIfInBounds_toArray, List.set_cons_zero, List.set_cons_succ]
      refine wpAnyK_one (i := 6) (fuel := 3) rfl (by kernel_rfl) rfl (fun K hK => ?_)
      refine op_runs (some 14) rfl (ex_make h _ _ _ rfl ps.length rfl rfl (by omega) (by simp [maxLen]; omega) (usedV ps.length []) Hmk.out) ?_; clear h; rintro _ w ⟨gU, rfl, h⟩; refine hK.out _ _ (fun _ => h.to) ?_; clear hK K
      try simp only [Act.put, List.setIfInBounds_toArray, List.set_cons_zero, List.set_cons_succ]
      refine wpAnyK_load 15 (i := 7) (fuel := 2) rfl rfl (by kernel_rfl) (by kernel_rfl) (by kernel_rfl) (.inr (by decide)) (by decide) (fun _ _ _ h => h) rfl (fun w h => ex_lit _ _ rfl [(0, .slice A ps.length c), (1, .map (some ga)), (2, .map (some gd)), (3, .slice (some ⟨gU, 0, none⟩) ps.length ps.length)] rfl) ?_; simp only [Act.put, List.setIfInBounds_toArray, List.set_cons_zero, List.set_cons_succ]
      refine wpAnyK_one (i := 8) (fuel := 1) rfl (by kernel_rfl) rfl (fun K hK => ?_)
      refine op_runs (some 16) rfl (ex_box h 71 _ rfl (plc A (some ⟨gU, 0, none⟩) ps.length c ga gd) rfl) ?_; clear h; rintro _ w ⟨gp, rfl, h⟩; refine hK.out _ _ (fun _ => h.to) ?_; clear hK K
      try simp only [Act.put, List.setIfInBounds_toArray, List.set_cons_zero, List.set_cons_succ]
      refine wpAnyK_pure 4 (v := ?_) (i := 9) (fuel := 0) rfl rfl (by kernel_rfl) (by kernel_rfl) (by kernel_rfl) (by decide) (fun _ _ _ h => h) (Or.inl ⟨by rfl, fun w _ => ?_⟩) ?_; rotate_left; (go_simp; with_reducible rfl); simp only [Act.put, List.setIfInBounds_toArray, List.set_cons_zero, List.set_cons_succ]
      refine wpAnyK_done (by kernel_rfl) ?_
    rotate_left 1
    focus
      refine op_runs (some 14) rfl (ex_make h _ _ _ rfl ps.length rfl rfl (by omega) (by simp [maxLen]; omega) (usedV ps.length []) Hmk.out) ?_; clear h; rintro _ w ⟨gU, rfl, h⟩; refine hK.out _ _ (fun _ => h.to) ?_; clear hK K
      try simp only [Act.put, List.setIfInBounds_toArray, List.set_cons_zero, List.set_cons_succ]
      refine wpAnyK_one (i := 2) (fuel := 3) rfl (by kernel_rfl) rfl (fun K hK => ?_)
      (go_simp; go_wp2_with (go_at_call 36; refine (index_code (A := A) (c := c) (ps := ps) h hl).mono ?_; clear h; rintro e w ⟨ga, mi, rfl, hmi, h⟩; have Hmi := Lib.hid hmi; clear hmi)); refine hK.out _ _ (fun _ => h.to) ?_; clear hK K
      try simp only [Act.put, List.setIfInBounds_toArray, List.set_cons_zero, List.set_cons_succ]
      refine wpAnyK_load 15 (i := 7) (fuel := 2) rfl rfl (by kernel_rfl) (by kernel_rfl) (by kernel_rfl) (.inr (by decide)) (by decide) (fun _ _ _ h => h) rfl (fun w h => ex_lit _ _ rfl [(0, .slice A ps.length c), (1, .map (some ga)), (2, .map (some gd)), (3, .slice (some ⟨gU, 0, none⟩) ps.length ps.length)] rfl) ?_; simp only [Act.put, List.setIfInBounds_toArray, List.set_cons_zero, List.set_cons_succ]
      refine wpAnyK_one (i := 8) (fuel := 1) rfl (by kernel_rfl) rfl (fun K hK => ?_)
      refine op_runs (some 16) rfl (ex_box h 71 _ rfl (plc A (some ⟨gU, 0, none⟩) ps.length c ga gd) rfl) ?_; clear h; rintro _ w ⟨gp, rfl, h⟩; refine hK.out _ _ (fun _ => h.to) ?_; clear hK K
      try simp only [Act.put, List.setIfInBounds_toArray, List.set_cons_zero, List.set_cons_succ]
      refine wpAnyK_pure 4 (v := ?_) (i := 9) (fuel := 0) rfl rfl (by kernel_rfl) (by kernel_rfl) (by kernel_rfl) (by decide) (fun _ _ _ h => h) (Or.inl ⟨by rfl, fun w _ => ?_⟩) ?_; rotate_left; (go_simp; with_reducible rfl); simp only [Act.put, List.setIfInBounds_toArray, List.set_cons_zero, List.set_cons_succ]
      refine wpAnyK_done (by kernel_rfl) ?_
    rotate_left 1
  rotate_left 2
  focus
    refine op_runs (some 14) rfl (ex_make h _ _ _ rfl ps.length rfl rfl (by omega) (by simp [maxLen]; omega) (usedV ps.length []) Hmk.out) ?_; clear h; rintro _ w ⟨gU, rfl, h⟩; refine hK.out _ _ (fun _ => h.to) ?_; clear hK K
    try simp only [Act.put, List.setIfInBounds_toArray, List.set_cons_zero, List.set_cons_succ]
    refine wpAnyK_two (i := 2) (i2 := 3) (fuel := 4) rfl rfl (by kernel_rfl) rfl rfl (fun K hK => ?_) (fun K hK => ?_)
    focus
      (go_simp; go_wp2_with (go_at_call 36; refine (index_code (A := A) (c := c) (ps := ps) h hl).mono ?_; clear h; rintro e w ⟨ga, mi, rfl, hmi, h⟩; have Hmi := Lib.hid hmi; clear hmi)); refine hK.out _ _ (fun _ => h.to) ?_; clear hK K
      try simp only [Act.put, List.setIfInBounds_toArray, List.set_cons_zero, List.set_cons_succ]
      refine wpAnyK_one (i := 3) (fuel := 3) rfl (by kernel_rfl) rfl (fun K hK => ?_)
      refine op_runs (some 11) rfl (ex_mmake h _ rfl idv boV) ?_; clear h; rintro _ w ⟨gd, rfl, h⟩; refine hK.out _ _ (fun _ => h.to) ?_; clear hK K
      try simp only [Act.put, List.setIfInBounds_toArray, List.set_cons_zero, List.set_cons_succ]
      refine wpAnyK_load 15 (i := 7) (fuel := 2) rfl rfl (by kernel_rfl) (by kernel_rfl) (by kernel_rfl) (.inr (by decide)) (by decide) (fun _ _ _ h => h) rfl (fun w h => ex_lit _ _ rfl [(0, .slice A ps.length c), (1, .map (some ga)), (2, .map (some gd)), (3, .slice (some ⟨gU, 0, none⟩) ps.length ps.length)] rfl) ?_; simp only [Act.put, List.setIfInBounds_toArray, List.set_cons_zero, List.set_cons_succ]
      refine wpAnyK_one (i := 8) (fuel := 1) rfl (by kernel_rfl) rfl (fun K hK => ?_)
      refine op_runs (some 16) rfl (ex_box h 71 _ rfl (plc A (some ⟨gU, 0, none⟩) ps.length c ga gd) rfl) ?_; clear h; rintro _ w ⟨gp, rfl, h⟩; refine hK.out _ _ (fun _ => h.to) ?_; clear hK K
      try simp only [Act.put, List.setIfInBounds_toArray, List.set_cons_zero, List.set_cons_succ]
      refine wpAnyK_pure 4 (v := ?_) (i := 9) (fuel := 0) rfl rfl (by kernel_rfl) (by kernel_rfl) (by kernel_rfl) (by decide) (fun _ _ _ h => h) (Or.inl ⟨by rfl, fun w _ => ?_⟩) ?_; rotate_left; (go_simp; with_reducible rfl); simp only [Act.put, List.setIfInBounds_toArray, List.set_cons_zero, List.set_cons_succ]
      refine wpAnyK_done (by kernel_rfl) ?_
    rotate_left 1
    focus
      refine op_runs (some 11) rfl (ex_mmake h _ rfl idv boV) ?_; clear h; rintro _ w ⟨gd, rfl, h⟩; refine hK.out _ _ (fun _ => h.to) ?_; clear hK K
      try simp only [Act.put, List.setIfInBounds_toArray, List.set_cons_zero, List.set_cons_succ]
      refine wpAnyK_one (i := 2) (fuel := 3) rfl (by kernel_rfl) rfl (fun K hK => ?_)
      (go_simp; go_wp2_with (go_at_call 36; refine (index_code (A := A) (c := c) (ps := ps) h hl).mono ?_; clear h; rintro e w ⟨ga, mi, rfl, hmi, h⟩; have Hmi := Lib.hid hmi; clear hmi)); refine hK.out _ _ (fun _ => h.to) ?_; clear hK K
      try simp only [Act.put, List.setIfInBounds_toArray, List.set_cons_zero, List.set_cons_succ]
      refine wpAnyK_load 15 (i := 7) (fuel := 2) rfl rfl (by kernel_rfl) (by kernel_rfl) (by kernel_rfl) (.inr (by decide)) (by decide) (fun _ _ _ h => h) rfl (fun w h => ex_lit _ _ rfl [(0, .slice A ps.length c), (1, .map (some ga)), (2, .map (some gd)), (3, .slice (some ⟨gU, 0, none⟩) ps.length ps.length)] rfl) ?_; simp only [Act.put, List.setIfInBounds_toArray, List.set_cons_zero, List.set_cons_succ]
      refine wpAnyK_one (i := 8) (fuel := 1) rfl (by kernel_rfl) rfl (fun K hK => ?_)
      refine op_runs (some 16) rfl (ex_box h 71 _ rfl (plc A (some ⟨gU, 0, none⟩) ps.length c ga gd) rfl) ?_; clear h; rintro _ w ⟨gp, rfl, h⟩; refine hK.out _ _ (fun _ => h.to) ?_; clear hK K
      try simp only [Act.put, List.setIfInBounds_toArray, List.set_cons_zero, List.set_cons_succ]
      refine wpAnyK_pure 4 (v := ?_) (i := 9) (fuel := 0) rfl rfl (by kernel_rfl) (by kernel_rfl) (by kernel_rfl) (by decide) (fun _ _ _ h => h) (Or.inl ⟨by rfl, fun w _ => ?_⟩) ?_; rotate_left; (go_simp; with_reducible rfl); simp only [Act.put, List.setIfInBounds_toArray, List.set_cons_zero, List.set_cons_succ]
      refine wpAnyK_done (by kernel_rfl) ?_
    rotate_left 1
  rotate_left 2
  all_goals
    have h0 := (h.lnk0).nilRow 44 34
    have h1 : St S w0 _ (OrdL gp ga gd ps.length c A (some ⟨gU, 0, none⟩) mi [] [] (eOwn 44 34 none 0 0 [] :: eLnk [] :: L)) := h0.to (L' := eBlk gp 71 (plc A (some ⟨gU, 0, none⟩) ps.length c ga gd) :: eOwn 4 1 (some ⟨gU, 0, none⟩) ps.length ps.length (usedV ps.length []) :: eMap ga idv natI mi :: eMap gd idv boV [] :: eOwn 44 34 none 0 0 [] :: eLnk [] :: L)
    obtain ⟨U, hU⟩ : ∃ U : Option Addr, U = some ⟨gU, 0, none⟩ := ⟨_, rfl⟩
    rw [← hU] at h1
    replace Hmi : Hid (∀ x, mget mi x = fstIx (idsOf (obsM ps)) x) := Lib.hid (by rw [ids_obs]; exact Hmi.out)
    clear h h0 Hmk hU
    have h := h1
    clear h1
    go_wp2
    go_loopw [5] (fun ov wr => ∃ (k : Nat) (out : List Nat) (ops : List ObAt) (dm : List (Id × Bool)) (AO : Option Addr) (cO : Nat), ov = .slice AO ops.length cO ∧ k + ops.length = ps.length ∧ Hid (OInv (obsM ps) k out) ∧ Hid (obsM ops = pickM (obsM ps) out) ∧ Hid (DoneIs (obsM ps) dm out) ∧ St S w0 wr (OrdL gp ga gd ps.length c A U mi dm out (eOwn 44 34 AO ops.length cO (ops.flatMap obc) :: eLnk ops :: L))) (fun ov _ => ps.length - slLen ov)
    case atStart => exact ⟨ps.length, [], [], [], none, 0, rfl, rfl, Lib.hid (by have := OInv.init (obsM ps); rwa [HN.out] at this), Lib.hid rfl, Lib.hid (DoneIs.nil _), h⟩
    case round =>
      clear h
      obtain ⟨k, out, ops, dm, AO, cO, rfl, hk, Hinv, Hops, Hdm, h⟩ := hrel
      cases k with
      | zero =>
        have f1 : ¬ (ops.length : Int) < (ps.length : Int) := by omega
        have Hfin : Hid ((obsM ops, true) = ordR (obsM ps)) := Lib.hid (by rw [ordR, Hinv.out.end_, Hops.out])
        clear hk
        go_wp2
        go_ret2
        exact ⟨AO, cO, ops, true, rfl, Hfin.out, h.to⟩
      | succ k =>
        have f1 : (ops.length : Int) < (ps.length : Int) := by omega
        have hol : ops.length < 1000000 := by omega
        have Hk := Lib.hid hk
        clear hk
        cases hnx : nextM (obsM ps) out with
        | none =>
          have Hnx : Hid (findV (nextM (obsM ps) out) = -1) := Lib.hid (by rw [hnx]; rfl)
          have Hfin : Hid ((obsM [], false) = ordR (obsM ps)) := Lib.hid (by rw [ordR, Hinv.out.stuck hnx]; rfl)
          clear hnx
          go_wp2_with (first
            | (go_at_call 40; refine (next_code (gp := gp) (ga := ga) (gd := gd) (A := A) (c := c) (ps := ps) (out := out) h Hmi Hdm hl Hls).mono ?_; rw [Hnx.out]; clear h; rintro r w ⟨rfl, h⟩))
          go_ret2
          replace h : St S w0 _ L := h.to
          exact ⟨none, 0, [], false, rfl, Hfin.out, (h.lnk0).nilRow _ _⟩
        | some i =>
          have Hnx : Hid (findV (nextM (obsM ps) out) = (i : Int)) := Lib.hid (by rw [hnx]; rfl)
          have Hinv2 := Lib.hid (Hinv.out.next hnx)
          have hil := (next_lt hnx).1
          rw [HN.out] at hil
          have f2 : (i : Int) < (ps.length : Int) := by omega
          have f3 : ¬ (i : Int) < 0 := by omega
          have t1 : ((i : Int)).toNat = i := by omega
          obtain ⟨p, hp⟩ : ∃ p, ps[i] = p := ⟨_, rfl⟩
          have hpm : p ∈ ps := by rw [← hp]; exact List.getElem_mem _
          have hpl := Hls.out p hpm
          have hidq : (idsOf (obsM ps))[i]? = some p.id := by simp [idsOf, obsM, obOf, hil, hp]
          have Hpk : Hid (pickM (obsM ps) (out ++ [i]) = pickM (obsM ps) out ++ [obOf p]) := Lib.hid (by
            rw [pick_snoc (obsM ps) out (by rw [HN.out]; exact hil)]
            simp [obsM, hp])
          obtain ⟨bU, oU, rfl⟩ : ∃ bU oU, U = some ⟨bU, oU, none⟩ := by
            obtain ⟨bU, oU, e, _⟩ := (h.sl U ps.length ps.length).pos (by omega)
            exact ⟨bU, oU, e⟩
          have hpn := (h.obsAt obc A ps.length c).2.n_eq hpm
          have Hid2 := Lib.hid hidq
          obtain ⟨b, off, rfl, _⟩ := (h.obsAt obc A ps.length c).1.pos (by omega)
          have hcs : ∀ {w}, Sl w (some ⟨b, off, none⟩) ps.length c 34 (ps.flatMap obc) → Cells w b (off + i * 34) (obc p) := fun hs => by rw [← hp]; exact hs.elemAt obc_length hil (by omega)
          have Hpm := Lib.hid hpm
          clear hnx hp hidq
          obtain ⟨pA, pn, pc, pi, pl, px⟩ := p
          simp only at hpl hpn Hid2
          obtain rfl : pn = pl.length := hpn
          have hrx : Row (u8s pi.1) 32 := Row.u32 pi
          go_upto_region 8 with (first
            | (go_at_call 40; refine (next_code (gp := gp) (ga := ga) (gd := gd) (A := some ⟨b, off, none⟩) (c := c) (ps := ps) (out := out) h Hmi Hdm hl Hls).mono ?_; rw [Hnx.out]; clear h; rintro r w ⟨rfl, h⟩; replace h := h.oneLinks obc (some ⟨b, off, none⟩) ps.length c Hpm.out)
            | (refine wl_at 29 rfl ?_; refine wl_reads rfl (ex_load_at _ _ rfl b (off + i * 34) rfl (c_api_Object (u8s pi.1) (.slice pA pl.length pc) (.int .i64 px)) (obc_length ⟨pA, pl.length, pc, pi, pl, px⟩) (hcs (h.obsAt obc (some ⟨b, off, none⟩) ps.length c).1)) ?_; try simp only [Act.put, List.setIfInBounds_toArray, List.set_cons_zero, List.set_cons_succ])
            | (refine wl_at 7 rfl ?_; refine wl_runs rfl (ex_alloc h 44 rfl) ?_; clear h; rintro _ w ⟨g7, rfl, h⟩; try simp only [Act.put, List.setIfInBounds_toArray, List.set_cons_zero, List.set_cons_succ])
            | (refine wl_none rfl ?_; refine wl_runs rfl (ex_store h _ _ _ rfl _ _ rfl (c_api_Object (u8s pi.1) (.slice pA pl.length pc) (.int .i64 px)) rfl) ?_; clear h; rintro _ w ⟨rfl, h⟩; try simp only [Act.put, List.setIfInBounds_toArray, List.set_cons_zero, List.set_cons_succ]))
          refine wp_region_K 16 (fun w' => St S w0 w' (eBlk g7 44 (c_api_Object (u8s pi.1) (.slice pA pl.length pc) (.int .i64 px)) :: eBlk gp 71 (plc (some ⟨b, off, none⟩) (some ⟨bU, oU, none⟩) ps.length c ga gd) :: [])) (by kernel_rfl) (by exact St.to h.drew) ?_; replace h := h.drew
          refine wpAnyK_pure 30 (v := ?_) (i := 0) (fuel := 15) rfl rfl (by kernel_rfl) (by kernel_rfl) (by kernel_rfl) (by decide) (fun _ _ _ h => h) (Or.inl ⟨by rfl, fun w _ => ?_⟩) ?_; rotate_left; (go_simp; with_reducible rfl); simp only [Act.put, List.setIfInBounds_toArray, List.set_cons_zero, List.set_cons_succ]
          refine wpAnyK_pure 31 (v := ?_) (i := 1) (fuel := 14) rfl rfl (by kernel_rfl) (by kernel_rfl) (by kernel_rfl) (by decide) (fun _ _ _ h => h) (Or.inl ⟨by rfl, fun w _ => ?_⟩) ?_; rotate_left; (go_simp; with_reducible rfl); simp only [Act.put, List.setIfInBounds_toArray, List.set_cons_zero, List.set_cons_succ]
          refine wpAnyK_pure 32 (v := ?_) (i := 2) (fuel := 13) rfl rfl (by kernel_rfl) (by kernel_rfl) (by kernel_rfl) (by decide) (fun _ _ _ h => h) (Or.inl ⟨by rfl, fun w _ => ?_⟩) ?_; rotate_left; (go_simp; with_reducible rfl); simp only [Act.put, List.setIfInBounds_toArray, List.set_cons_zero, List.set_cons_succ]
          refine wpAnyK_load 33 (i := 3) (fuel := 12) rfl rfl (by kernel_rfl) (by kernel_rfl) (by kernel_rfl) (.inr (by decide)) (by decide) (fun _ _ _ h => h) rfl (fun w h => ex_loadv h _ _ rfl _ _ rfl) ?_; simp only [Act.put, List.setIfInBounds_toArray, List.set_cons_zero, List.set_cons_succ]
          refine wpAnyK_pure 34 (v := ?_) (i := 4) (fuel := 11) rfl rfl (by kernel_rfl) (by kernel_rfl) (by kernel_rfl) (by decide) (fun _ _ _ h => h) (Or.inl ⟨by rfl, fun w _ => ?_⟩) ?_; rotate_left; (go_simp; with_reducible rfl); simp only [Act.put, List.setIfInBounds_toArray, List.set_cons_zero, List.set_cons_succ]
          refine wpAnyK_pure 35 (v := ?_) (i := 5) (fuel := 10) rfl rfl (by kernel_rfl) (by kernel_rfl) (by kernel_rfl) (by decide) (fun _ _ _ h => h) (Or.inl ⟨by rfl, fun w _ => ?_⟩) ?_; rotate_left; (go_simp; with_reducible rfl); simp only [Act.put, List.setIfInBounds_toArray, List.set_cons_zero, List.set_cons_succ]
          refine wpAnyK_pure 36 (v := ?_) (i := 6) (fuel := 9) rfl rfl (by kernel_rfl) (by kernel_rfl) (by kernel_rfl) (by decide) (fun _ _ _ h => h) (Or.inl ⟨by rfl, fun w _ => ?_⟩) ?_; rotate_left; (go_simp; with_reducible rfl); simp only [Act.put, List.setIfInBounds_toArray, List.set_cons_zero, List.set_cons_succ]
          refine wpAnyK_pure 37 (v := ?_) (i := 7) (fuel := 8) rfl rfl (by kernel_rfl) (by kernel_rfl) (by kernel_rfl) (by decide) (fun _ _ _ h => h) (Or.inl ⟨by rfl, fun w _ => ?_⟩) ?_; rotate_left; (go_simp; with_reducible rfl); simp only [Act.put, List.setIfInBounds_toArray, List.set_cons_zero, List.set_cons_succ]
          refine wpAnyK_load 38 (i := 8) (fuel := 7) rfl rfl (by kernel_rfl) (by kernel_rfl) (by kernel_rfl) (.inr (by decide)) (by decide) (fun _ _ _ h => h) rfl (fun w h => ex_loadv h _ _ rfl _ _ rfl) ?_; simp only [Act.put, List.setIfInBounds_toArray, List.set_cons_zero, List.set_cons_succ]
          refine wpAnyK_pure 39 (v := ?_) (i := 9) (fuel := 6) rfl rfl (by kernel_rfl) (by kernel_rfl) (by kernel_rfl) (by decide) (fun _ _ _ h => h) (Or.inl ⟨by rfl, fun w _ => ?_⟩) ?_; rotate_left; (go_simp; with_reducible rfl); simp only [Act.put, List.setIfInBounds_toArray, List.set_cons_zero, List.set_cons_succ]
          refine wpAnyK_load 40 (i := 10) (fuel := 5) rfl rfl (by kernel_rfl) (by kernel_rfl) (by kernel_rfl) (.inr (by decide)) (by decide) (fun _ _ _ h => h) rfl (fun w h => ex_loadv h _ _ rfl _ _ rfl) ?_; simp only [Act.put, List.setIfInBounds_toArray, List.set_cons_zero, List.set_cons_succ]
          refine wpAnyK_pure 41 (v := ?_) (i := 11) (fuel := 4) rfl rfl (by kernel_rfl) (by kernel_rfl) (by kernel_rfl) (by decide) (fun _ _ _ h => h) (Or.inl ⟨by rfl, fun w _ => ?_⟩) ?_; rotate_left; (go_simp; with_reducible rfl); simp only [Act.put, List.setIfInBounds_toArray, List.set_cons_zero, List.set_cons_succ]
          refine wpAnyK_one (i := 12) (fuel := 3) rfl (by kernel_rfl) rfl (fun K hK => ?_)
          refine op_runs none rfl (ex_store_row h _ _ _ rfl bU oU i rfl (.bool true) rfl hil) ?_; clear h; rintro _ w ⟨rfl, h⟩; refine hK.out _ _ (fun _ => h.to) ?_; clear hK K
          try simp only [Act.put, List.setIfInBounds_toArray, List.set_cons_zero, List.set_cons_succ]
          refine wpAnyK_one (i := 13) (fuel := 2) rfl (by kernel_rfl) rfl (fun K hK => ?_)
          refine op_runs (some 42) rfl (ex_mapEntry (kv := idv) (vv := boV) false h _ _ _ rfl gd rfl pi rfl rfl) ?_; clear h; rintro _ w ⟨st, rfl, h⟩; refine hK.out _ _ (fun _ => h.to) ?_; clear hK K
          try simp only [Act.put, List.setIfInBounds_toArray, List.set_cons_zero, List.set_cons_succ]
          refine wpAnyK_pure 43 (v := ?_) (i := 14) (fuel := 1) rfl rfl (by kernel_rfl) (by kernel_rfl) (by kernel_rfl) (by decide) (fun _ _ _ h => h) (Or.inl ⟨by rfl, fun w _ => ?_⟩) ?_; rotate_left; (go_simp; with_reducible rfl); simp only [Act.put, List.setIfInBounds_toArray, List.set_cons_zero, List.set_cons_succ]
          refine wpAnyK_one (i := 15) (fuel := 0) rfl (by kernel_rfl) rfl (fun K hK => ?_)
          refine op_runs none rfl (ex_entryStore (kv := idv) (vv := boV) h _ _ _ _ rfl gd rfl rfl true rfl) ?_; clear h; rintro _ w ⟨rfl, h⟩; refine hK.out _ _ (fun _ => h.to) ?_; clear hK K
          try simp only [Act.put, List.setIfInBounds_toArray, List.set_cons_zero, List.set_cons_succ]
          refine wpAnyK_done (by kernel_rfl) ?_
          go_wp2_with (first
            | (refine wl_at 45 rfl ?_; refine wl_reads rfl (ex_loadv h _ _ rfl _ _ rfl) ?_; try simp only [Act.put, List.setIfInBounds_toArray, List.set_cons_zero, List.set_cons_succ])
            | (go_at_call 37; refine (clone_ids (A := pA) (n := pl.length) (c := pc) (xs := pl) h (by omega)).mono ?_; clear h; rintro e w ⟨A1, c1, rfl, h⟩)
            | (refine wl_none rfl ?_; refine wl_runs rfl (ex_store1s h _ _ _ rfl _ _ rfl _ _ _ rfl) ?_; clear h; rintro _ w ⟨rfl, h⟩; try simp only [Act.put, List.setIfInBounds_toArray, List.set_cons_zero, List.set_cons_succ])
            | (refine wl_at 49 rfl ?_; refine wl_reads rfl (ex_loadv h _ _ rfl _ _ rfl) ?_; try simp only [Act.put, List.setIfInBounds_toArray, List.set_cons_zero, List.set_cons_succ])
            | (refine wl_at 50 rfl ?_; refine wl_runs rfl (ex_slice1 h _ _ rfl (c_api_Object (u8s pi.1) (.slice A1 pl.length c1) (.int .i64 px)) rfl) ?_; clear h; rintro _ w ⟨gq, rfl, h⟩; try simp only [Act.put, List.setIfInBounds_toArray, List.set_cons_zero, List.set_cons_succ])
            | (refine wl_at 51 rfl ?_; refine wl_runs rfl (ex_append h _ _ _ rfl AO rfl (some ⟨gq, 0, none⟩) 1 1 rfl (h.slBox gq) (inferInstance : Row (c_api_Object (u8s pi.1) (.slice A1 pl.length c1) (.int .i64 px)) 34).one (by simp [maxLen]; omega) (by omega)) ?_; clear h; rintro _ w ⟨AO2, cO2, rfl, h⟩; try simp only [Act.put, List.setIfInBounds_toArray, List.set_cons_zero, List.set_cons_succ]))
          have e0 : (usedV ps.length out).set i (.bool true) = usedV ps.length (out ++ [i]) := usedV_set hil
          rw [e0] at h
          replace h : St S w0 w (eOwn 33 32 A1 pl.length c1 (pl.flatMap idc) :: eLnk ops :: eOwn 44 34 AO2 (ops.length + 1) cO2 (ops.flatMap obc ++ c_api_Object (u8s pi.1) (.slice A1 pl.length c1) (.int .i64 px)) :: eBlk gp 71 (plc (some ⟨b, off, none⟩) (some ⟨bU, oU, none⟩) ps.length c ga gd) :: eOwn 4 1 (some ⟨bU, oU, none⟩) ps.length ps.length (usedV ps.length (out ++ [i])) :: eMap ga idv natI mi :: eMap gd idv boV (mset (mset dm pi ((mget dm pi).getD false)) pi true) :: L) := h.to
          replace h := h.lnkAdd pi px
          have e1 : ops.length + 1 = (ops ++ [(⟨A1, pl.length, c1, pi, pl, px⟩ : ObAt)]).length := by simp
          have e2 : ops.flatMap obc ++ c_api_Object (u8s pi.1) (.slice A1 pl.length c1) (.int .i64 px) = (ops ++ [(⟨A1, pl.length, c1, pi, pl, px⟩ : ObAt)]).flatMap obc := by simp
          have Hops2 : Hid (obsM (ops ++ [(⟨A1, pl.length, c1, pi, pl, px⟩ : ObAt)]) = pickM (obsM ps) (out ++ [i])) := Lib.hid (by rw [obs_snoc, Hpk.out, Hops.out]; rfl)
          have Hdm2 := Lib.hid (Hdm.out.next2 ((mget dm pi).getD false) Hid2.out)
          have hkk := Hk.out
          rw [e1, e2] at h
          refine ⟨⟨k, out ++ [i], ops ++ [⟨A1, pl.length, c1, pi, pl, px⟩], _, AO2, cO2, by simp, by rw [← e1]; omega, Hinv2, Hops2, Hdm2, h.to (L' := eBlk gp 71 (plc (some ⟨b, off, none⟩) (some ⟨bU, oU, none⟩) ps.length c ga gd) :: eOwn 4 1 (some ⟨bU, oU, none⟩) ps.length ps.length (usedV ps.length (out ++ [i])) :: eMap ga idv natI mi :: eMap gd idv boV (mset (mset dm pi ((mget dm pi).getD false)) pi true) :: eOwn 44 34 AO2 (ops ++ [(⟨A1, pl.length, c1, pi, pl, px⟩ : ObAt)]).length cO2 ((ops ++ [(⟨A1, pl.length, c1, pi, pl, px⟩ : ObAt)]).flatMap obc) :: eLnk (ops ++ [(⟨A1, pl.length, c1, pi, pl, px⟩ : ObAt)]) :: L)⟩, ?_⟩
          simp only [slLen]
          omega
end Go.Proofs.Ytionnlckjjojnaa
