/- Chapter 15's example; whether objects are few. -/
import Derived.Test.YtionnlckjjojnaaCMarkSame
namespace Go.Proofs.Ytionnlckjjojnaa
open Go.RowKit Go.Maps
set_option linter.unusedVariables false
set_option linter.unusedSimpArgs false

theorem mark_reach_at {S : Nat → Prop} {w0 w : World} {L : List Ent} {A B : Option Addr} {c d : Nat} {ps : List ObAt} {roots : List Id} (h : St S w0 w L) (hA : Sl w A ps.length c 34 (ps.flatMap obc) ∧ LinksIs w ps) (hB : Sl w B roots.length d 32 (roots.flatMap idc)) (hl : ps.length ≤ 1000000) (hls : ∀ p ∈ ps, p.links.length ≤ 1000000) (hr : roots.length ≤ 1000000) :
    Calls Try.prog 16 #[.slice A ps.length c, .slice B roots.length d] w fun e w' => ∃ A1 c1, e = .returned (.slice A1 (linksM (reachM (obsM ps) roots)).length c1) ∧ St S w0 w' (eOwn 33 32 A1 (linksM (reachM (obsM ps) roots)).length c1 ((linksM (reachM (obsM ps) roots)).flatMap idc) :: L) := by
  have k0 : St (fun _ => False) w w (eObs obc A ps.length c ps :: eSl B roots.length d 32 (roots.flatMap idc) :: []) := ((St.obs0 hA.1 hA.2).reading hB (by omega) (fun k hk => ⟨hB.ft_lt (by omega) hk, id⟩)).to
  refine (mark_reach k0 hl hls hr).mono ?_
  rintro e w' ⟨A1, c1, rfl, k⟩
  exact ⟨A1, c1, rfl, h.frame01 k.to⟩
theorem mark_sweep_at {S : Nat → Prop} {w0 w : World} {L : List Ent} {A B : Option Addr} {c d : Nat} {ps : List ObAt} {roots : List Id} (h : St S w0 w L) (hA : Sl w A ps.length c 34 (ps.flatMap obc) ∧ LinksIs w ps) (hB : Sl w B roots.length d 32 (roots.flatMap idc)) (hl : ps.length ≤ 1000000) (hls : ∀ p ∈ ps, p.links.length ≤ 1000000) (hr : roots.length ≤ 1000000) :
    Calls Try.prog 18 #[.slice A ps.length c, .slice B roots.length d] w fun e w' => ∃ A1 c1 A2 c2 kps, e = .returned (.tuple #[.slice A1 kps.length c1, .slice A2 (linksM (goneM (obsM ps) roots)).length c2]) ∧ obsM kps = keptM (obsM ps) roots ∧
      St S w0 w' (eOwn 44 34 A1 kps.length c1 (kps.flatMap obc) :: eLnk kps :: eOwn 33 32 A2 (linksM (goneM (obsM ps) roots)).length c2 ((linksM (goneM (obsM ps) roots)).flatMap idc) :: L) := by
  have k0 : St (fun _ => False) w w (eObs obc A ps.length c ps :: eSl B roots.length d 32 (roots.flatMap idc) :: []) := ((St.obs0 hA.1 hA.2).reading hB (by omega) (fun k hk => ⟨hB.ft_lt (by omega) hk, id⟩)).to
  refine (mark_sweep k0 hl hls hr).mono ?_
  rintro e w' ⟨A1, c1, A2, c2, kps, rfl, hk, k⟩
  have k2 : St (fun _ => False) w w' ([eOwn 44 34 A1 kps.length c1 (kps.flatMap obc), eLnk kps, eOwn 33 32 A2 (linksM (goneM (obsM ps) roots)).length c2 ((linksM (goneM (obsM ps) roots)).flatMap idc)]) := k.to
  exact ⟨A1, c1, A2, c2, kps, rfl, hk, h.frame0 k2⟩
theorem Blk.slN {w : World} {g n sz : Nat} {t : TypeId} {xs : List Value} (h : Blk w g t xs.toArray) (hl : xs.length = n * sz) (hn : n ≤ 1000000) : Sl w (some ⟨g, 0, none⟩) n n sz xs :=
  ⟨hl, Nat.le_refl _, by simp [maxLen]; omega, fun _ => ⟨g, 0, rfl, h.lt, fun i u hu => by rw [Nat.zero_add, h.cell]; simpa using hu⟩⟩
/-- T{x}: a literal of one part. -/
theorem ex_build1 {P : Program} {ρ : Operand → Value} {o : Oper} {w : World} (t : TypeId) (x : Operand) (ho : o.op = .build t #[(0, x)]) (v : Value) (hx : ρ x = v) (cells : Array Value) (hb : P.built t [(0, v)] = some cells) : Reads P ρ o w (.agg cells) :=
  ex_build t #[(0, x)] ho cells (by subst hx; simpa using hb)
def idN (n : UInt8) : Id := ⟨n :: zeros 31, by simp [zeros]⟩
def awkPs (gb : Nat) (i1 i2 i3 : Id) : List ObAt := [⟨some ⟨gb, 0, none⟩, 1, 1, i1, [i2], 0⟩, ⟨none, 0, 0, i2, [], 0⟩, ⟨none, 0, 0, i3, [], 0⟩]
def awkOs (i1 i2 i3 : Id) : List Ob := [⟨i1, [i2], 0⟩, ⟨i2, [], 0⟩, ⟨i3, [], 0⟩]
theorem awk_os (gb : Nat) (i1 i2 i3 : Id) : obsM (awkPs gb i1 i2 i3) = awkOs i1 i2 i3 := rfl
theorem awk_obs {w : World} {g gb : Nat} {t t2 : TypeId} {i1 i2 i3 : Id} (h : Blk w g t ((awkPs gb i1 i2 i3).flatMap obc).toArray) (h2 : Blk w gb t2 (u8s i2.1).toArray) : Sl w (some ⟨g, 0, none⟩) (awkPs gb i1 i2 i3).length 3 34 ((awkPs gb i1 i2 i3).flatMap obc) ∧ LinksIs w (awkPs gb i1 i2 i3) := by
  refine ⟨h.slN (n := 3) (length_flatMap obc_length _) (by omega), fun p hp => ?_⟩
  simp only [awkPs, List.mem_cons, List.not_mem_nil, or_false] at hp
  rcases hp with rfl | rfl | rfl
  · have : Sl w (some ⟨gb, 0, none⟩) 1 1 32 (u8s i2.1) := h2.slN (by rw [u8s_length, i2.2]) (by omega)
    simpa [idc] using this
  · exact Sl.nil w 32
  · exact Sl.nil w 32
theorem awk_reach : (linksM (reachM (awkOs (idN 1) (idN 2) (idN 3)) [idN 1])).length = 2 := by decide +kernel
theorem awk_kept : (keptM (awkOs (idN 1) (idN 2) (idN 3)) [idN 1]).length = 2 := by decide +kernel
theorem awk_gone : linksM (goneM (awkOs (idN 1) (idN 2) (idN 3)) [idN 1]) = [idN 3] := by decide +kernel
set_option maxRecDepth 100000 in
set_option maxHeartbeats 4000000 in
theorem mark_awake {S : Nat → Prop} {w0 w : World} {L : List Ent} (h : St S w0 w L) :
    Calls Try.prog 11 #[] w fun e w' => e = .returned (.bool true) ∧ St S w0 w' L := by
  obtain ⟨i1, h1⟩ : ∃ i, i = idN 1 := ⟨_, rfl⟩
  obtain ⟨i2, h2⟩ : ∃ i, i = idN 2 := ⟨_, rfl⟩
  obtain ⟨i3, h3⟩ : ∃ i, i = idN 3 := ⟨_, rfl⟩
  have Hreach : Hid ((linksM (reachM (awkOs i1 i2 i3) [i1])).length = 2) := Lib.hid (by rw [h1, h2, h3]; exact awk_reach)
  have Hkept : Hid ((keptM (awkOs i1 i2 i3) [i1]).length = 2) := Lib.hid (by rw [h1, h2, h3]; exact awk_kept)
  have Hgone : Hid (linksM (goneM (awkOs i1 i2 i3) [i1]) = [i3]) := Lib.hid (by rw [h1, h2, h3]; exact awk_gone)
  have B1 : Hid ((Try.prog).built 33 [(0, .int .u8 1)] = some (u8s i1.1).toArray) := Lib.hid (by rw [h1]; kernel_rfl)
  have B2 : Hid ((Try.prog).built 33 [(0, .int .u8 2)] = some (u8s i2.1).toArray) := Lib.hid (by rw [h2]; kernel_rfl)
  have B3 : Hid ((Try.prog).built 33 [(0, .int .u8 3)] = some (u8s i3.1).toArray) := Lib.hid (by rw [h3]; kernel_rfl)
  clear h1 h2 h3
  have hr1 : Row (u8s i1.1) 32 := Row.u32 i1
  have hr2 : Row (u8s i2.1) 32 := Row.u32 i2
  have hr3 : Row (u8s i3.1) 32 := Row.u32 i3
  have hls : ∀ gb, ∀ p ∈ awkPs gb i1 i2 i3, p.links.length ≤ 1000000 := fun gb p hp => by
    simp only [awkPs, List.mem_cons, List.not_mem_nil, or_false] at hp
    rcases hp with rfl | rfl | rfl <;> simp
  have Hls := Lib.hid hls
  clear hls
  have s1 := True.intro
  have s2 := True.intro
  have s3 := True.intro
  go_enter Try.func11, Try.ntmps11
  go_upto_region 4 with (first
    | (refine wl_at 7 rfl ?_; refine wl_reads rfl (ex_build1 _ _ rfl (.int .u8 1) rfl (u8s i1.1).toArray B1.out) ?_; try simp only [Act.put, List.setIfInBounds_toArray, List.set_cons_zero, List.set_cons_succ])
    | (refine wl_at 8 rfl ?_; refine wl_reads rfl (ex_build1 _ _ rfl (.int .u8 2) rfl (u8s i2.1).toArray B2.out) ?_; try simp only [Act.put, List.setIfInBounds_toArray, List.set_cons_zero, List.set_cons_succ])
    | (refine wl_at 9 rfl ?_; refine wl_reads rfl (ex_build1 _ _ rfl (.int .u8 3) rfl (u8s i3.1).toArray B3.out) ?_; try simp only [Act.put, List.setIfInBounds_toArray, List.set_cons_zero, List.set_cons_succ])
    | (refine wl_at 1 rfl ?_; refine wl_runs rfl (ex_alloc h 33 rfl) ?_; clear h; rintro _ w ⟨g1, rfl, h⟩; try simp only [Act.put, List.setIfInBounds_toArray, List.set_cons_zero, List.set_cons_succ])
    | (refine wl_at 2 rfl ?_; refine wl_runs rfl (ex_alloc h 33 rfl) ?_; clear h; rintro _ w ⟨g2, rfl, h⟩; try simp only [Act.put, List.setIfInBounds_toArray, List.set_cons_zero, List.set_cons_succ])
    | (refine wl_at 3 rfl ?_; refine wl_runs rfl (ex_alloc h 33 rfl) ?_; clear h; rintro _ w ⟨g3, rfl, h⟩; try simp only [Act.put, List.setIfInBounds_toArray, List.set_cons_zero, List.set_cons_succ])
    | (clear s1; refine wl_none rfl ?_; refine wl_runs rfl (ex_store h _ _ _ rfl g1 _ rfl (u8s i1.1) rfl) ?_; clear h; rintro _ w ⟨rfl, h⟩; try simp only [Act.put, List.setIfInBounds_toArray, List.set_cons_zero, List.set_cons_succ])
    | (clear s2; refine wl_none rfl ?_; refine wl_runs rfl (ex_store h _ _ _ rfl g2 _ rfl (u8s i2.1) rfl) ?_; clear h; rintro _ w ⟨rfl, h⟩; try simp only [Act.put, List.setIfInBounds_toArray, List.set_cons_zero, List.set_cons_succ])
    | (clear s3; refine wl_none rfl ?_; refine wl_runs rfl (ex_store h _ _ _ rfl g3 _ rfl (u8s i3.1) rfl) ?_; clear h; rintro _ w ⟨rfl, h⟩; try simp only [Act.put, List.setIfInBounds_toArray, List.set_cons_zero, List.set_cons_succ])
    | (refine wl_at 12 rfl ?_; refine wl_runs rfl (ex_slice1 h _ _ rfl (u8s i2.1) rfl) ?_; clear h; rintro _ w ⟨gb, rfl, h⟩; try simp only [Act.put, List.setIfInBounds_toArray, List.set_cons_zero, List.set_cons_succ])
    | (refine wl_at 13 rfl ?_; refine wl_reads rfl (ex_lit _ _ rfl [(0, .agg (u8s i1.1).toArray), (1, .slice (some ⟨gb, 0, none⟩) 1 1)] rfl) ?_; try simp only [Act.put, List.setIfInBounds_toArray, List.set_cons_zero, List.set_cons_succ])
    | (refine wl_at 15 rfl ?_; refine wl_reads rfl (ex_lit _ _ rfl [(0, .agg (u8s i2.1).toArray)] rfl) ?_; try simp only [Act.put, List.setIfInBounds_toArray, List.set_cons_zero, List.set_cons_succ])
    | (refine wl_at 17 rfl ?_; refine wl_reads rfl (ex_lit _ _ rfl [(0, .agg (u8s i3.1).toArray)] rfl) ?_; try simp only [Act.put, List.setIfInBounds_toArray, List.set_cons_zero, List.set_cons_succ])
    | (refine wl_at 18 rfl ?_; refine wl_runs rfl (ex_sliceN h _ 3 _ rfl ((awkPs gb i1 i2 i3).map fun p => (Value.agg (obc p).toArray, obc p)) rfl rfl (by intro p hp; obtain ⟨q, _, rfl⟩ := List.mem_map.1 hp; exact ⟨rfl, obc_length q⟩) (by decide) (by decide)) ?_; clear h; rintro _ w ⟨g18, rfl, h⟩; replace h : St S w0 w (eBlk g18 44 ((awkPs gb i1 i2 i3).flatMap obc) :: _) := h; try simp only [Act.put, List.setIfInBounds_toArray, List.set_cons_zero, List.set_cons_succ])
    | (refine wl_at 22 rfl ?_; refine wl_runs rfl (ex_slice1 h _ _ rfl (u8s i1.1) rfl) ?_; clear h; rintro _ w ⟨gr, rfl, h⟩; try simp only [Act.put, List.setIfInBounds_toArray, List.set_cons_zero, List.set_cons_succ])
    | (go_at_call 18; refine (mark_sweep_at (ps := awkPs gb i1 i2 i3) (roots := [i1]) (A := some ⟨g18, 0, none⟩) (c := 3) (B := some ⟨gr, 0, none⟩) (d := 1) h (awk_obs (h.blk g18) (h.blk gb)) (by have := h.slBox gr; simpa [idc] using this) (by simp [awkPs]) (Hls.out gb) (by simp)).mono ?_; rw [awk_os, Hgone.out]; clear h; rintro e w ⟨A1, c1, A2, c2, kps, rfl, hk, h⟩; have Hk := Lib.hid hk; clear hk)
    | (refine wl_reads rfl (ex_loadv h _ _ rfl _ _ rfl) ?_; try simp only [Act.put, List.setIfInBounds_toArray, List.set_cons_zero, List.set_cons_succ]))
  have hkl : kps.length = 2 := by have := congrArg List.length Hk.out; rw [Hkept.out] at this; simpa using this
  obtain ⟨bG, oG, rfl, hG⟩ := (h.sl A2 1 c2).pos (by omega)
  have hG2 : ∀ w, Sl w (some ⟨bG, oG, none⟩) 1 c2 32 ([i3].flatMap idc) → Cells w bG oG (u8s i3.1) := fun w hs => by
    have := hs.elemAt (k := 0) idc_length (by simp) (by omega)
    simpa [idc] using this
  have HG2 := Lib.hid hG2
  have q3 := Lib.hid (show (u8s i3.1).length = 32 by rw [u8s_length, i3.2])
  have heq : (i3.1 == i3.1) = true := by simp
  rw [hkl] at h ⊢
  clear hG2 hG hkl
  refine wp_region_K 24 (fun w' => St _ _ w' _) (by kernel_rfl) h.drew ?_; replace h := h.drew
  refine wpAnyK_pure 26 (v := ?_) (i := 0) (fuel := 23) rfl rfl (by kernel_rfl) (by kernel_rfl) (by kernel_rfl) (by decide) (fun _ _ _ h => h) (Or.inl ⟨by rfl, fun w _ => ?_⟩) ?_; rotate_left; (go_simp; with_reducible rfl); simp only [Act.put, List.setIfInBounds_toArray, List.set_cons_zero, List.set_cons_succ]
  refine wpAnyK_load 27 (i := 1) (fuel := 22) rfl rfl (by kernel_rfl) (by kernel_rfl) (by kernel_rfl) (.inr (by decide)) (by decide) (fun _ _ _ h => h) rfl (fun w h => ex_loadv h _ _ rfl _ _ rfl) ?_; simp only [Act.put, List.setIfInBounds_toArray, List.set_cons_zero, List.set_cons_succ]
  refine wpAnyK_one (i := 2) (fuel := 21) rfl (by kernel_rfl) rfl (fun K hK => ?_)
  refine op_runs (some 28) rfl (ex_slice1 h _ _ rfl (u8s i1.1) rfl) ?_; rintro _ w ⟨gq, rfl, h⟩; refine hK.out _ _ (fun _ => h.to) ?_; clear hK K
  try simp only [Act.put, List.setIfInBounds_toArray, List.set_cons_zero, List.set_cons_succ]
  refine wpAnyK_one (i := 3) (fuel := 20) rfl (by kernel_rfl) rfl (fun K hK => ?_)
  (go_simp; go_wp2_with (go_at_call 16; refine (mark_reach_at (ps := awkPs gb i1 i2 i3) (roots := [i1]) (A := some ⟨g18, 0, none⟩) (c := 3) (B := some ⟨gq, 0, none⟩) (d := 1) h (awk_obs (h.blk g18) (h.blk gb)) (by have := h.slBox gq; simpa [idc] using this) (by simp [awkPs]) (Hls.out gb) (by simp)).mono ?_; rw [awk_os, Hreach.out]; clear h; rintro e w ⟨A3, c3, rfl, h⟩)); refine hK.out _ _ (fun _ => h.to) ?_; clear hK K
  try simp only [Act.put, List.setIfInBounds_toArray, List.set_cons_zero, List.set_cons_succ]
  refine wpAnyK_pure 30 (v := ?_) (i := 4) (fuel := 19) rfl rfl (by kernel_rfl) (by kernel_rfl) (by kernel_rfl) (by decide) (fun _ _ _ h => h) (Or.inl ⟨by rfl, fun w _ => ?_⟩) ?_; rotate_left; (go_simp; with_reducible rfl); simp only [Act.put, List.setIfInBounds_toArray, List.set_cons_zero, List.set_cons_succ]
  refine wpAnyK_pure 31 (v := ?_) (i := 5) (fuel := 18) rfl rfl (by kernel_rfl) (by kernel_rfl) (by kernel_rfl) (by decide) (fun _ _ _ h => h) (Or.inl ⟨by rfl, fun w _ => ?_⟩) ?_; rotate_left; (go_simp; with_reducible rfl); simp only [Act.put, List.setIfInBounds_toArray, List.set_cons_zero, List.set_cons_succ]
  refine wpAnyK_pure 32 (v := ?_) (i := 6) (fuel := 17) rfl rfl (by kernel_rfl) (by kernel_rfl) (by kernel_rfl) (by decide) (fun _ _ _ h => h) (Or.inl ⟨by rfl, fun w _ => ?_⟩) ?_; rotate_left; (go_simp; with_reducible rfl); simp only [Act.put, List.setIfInBounds_toArray, List.set_cons_zero, List.set_cons_succ]
  refine wpAnyK_pure 33 (v := ?_) (i := 7) (fuel := 16) rfl rfl (by kernel_rfl) (by kernel_rfl) (by kernel_rfl) (by decide) (fun _ _ _ h => h) (Or.inl ⟨by rfl, fun w _ => ?_⟩) ?_; rotate_left; (go_simp; with_reducible rfl); simp only [Act.put, List.setIfInBounds_toArray, List.set_cons_zero, List.set_cons_succ]
  refine wpAnyK_pure 34 (v := ?_) (i := 8) (fuel := 15) rfl rfl (by kernel_rfl) (by kernel_rfl) (by kernel_rfl) (by decide) (fun _ _ _ h => h) (Or.inl ⟨by rfl, fun w _ => ?_⟩) ?_; rotate_left; (go_simp; with_reducible rfl); simp only [Act.put, List.setIfInBounds_toArray, List.set_cons_zero, List.set_cons_succ]
  refine wpAnyK_pure 35 (v := ?_) (i := 9) (fuel := 14) rfl rfl (by kernel_rfl) (by kernel_rfl) (by kernel_rfl) (by decide) (fun _ _ _ h => h) (Or.inl ⟨by rfl, fun w _ => ?_⟩) ?_; rotate_left; (go_simp; with_reducible rfl); simp only [Act.put, List.setIfInBounds_toArray, List.set_cons_zero, List.set_cons_succ]
  refine wpAnyK_pure 36 (v := ?_) (i := 10) (fuel := 13) rfl rfl (by kernel_rfl) (by kernel_rfl) (by kernel_rfl) (by decide) (fun _ _ _ h => h) (Or.inl ⟨by rfl, fun w _ => ?_⟩) ?_; rotate_left; (go_simp; with_reducible rfl); simp only [Act.put, List.setIfInBounds_toArray, List.set_cons_zero, List.set_cons_succ]
  refine wpAnyK_pure 37 (v := ?_) (i := 11) (fuel := 12) rfl rfl (by kernel_rfl) (by kernel_rfl) (by kernel_rfl) (by decide) (fun _ _ _ h => h) (Or.inl ⟨by rfl, fun w _ => ?_⟩) ?_; rotate_left; (go_simp; with_reducible rfl); simp only [Act.put, List.setIfInBounds_toArray, List.set_cons_zero, List.set_cons_succ]
  refine wpAnyK_pure 38 (v := ?_) (i := 12) (fuel := 11) rfl rfl (by kernel_rfl) (by kernel_rfl) (by kernel_rfl) (by decide) (fun _ _ _ h => h) (Or.inl ⟨by rfl, fun w _ => ?_⟩) ?_; rotate_left; (go_simp; with_reducible rfl); simp only [Act.put, List.setIfInBounds_toArray, List.set_cons_zero, List.set_cons_succ]
  refine wpAnyK_pure 39 (v := ?_) (i := 13) (fuel := 10) rfl rfl (by kernel_rfl) (by kernel_rfl) (by kernel_rfl) (by decide) (fun _ _ _ h => h) (Or.inl ⟨by rfl, fun w _ => ?_⟩) ?_; rotate_left; (go_simp; with_reducible rfl); simp only [Act.put, List.setIfInBounds_toArray, List.set_cons_zero, List.set_cons_succ]
  refine wpAnyK_pure 40 (v := ?_) (i := 14) (fuel := 9) rfl rfl (by kernel_rfl) (by kernel_rfl) (by kernel_rfl) (by decide) (fun _ _ _ h => h) (Or.inl ⟨by rfl, fun w _ => ?_⟩) ?_; rotate_left; (go_simp; with_reducible rfl); simp only [Act.put, List.setIfInBounds_toArray, List.set_cons_zero, List.set_cons_succ]
  refine wpAnyK_pure 41 (v := ?_) (i := 15) (fuel := 8) rfl rfl (by kernel_rfl) (by kernel_rfl) (by kernel_rfl) (by decide) (fun _ _ _ h => h) (Or.inl ⟨by rfl, fun w _ => ?_⟩) ?_; rotate_left; (go_simp; with_reducible rfl); simp only [Act.put, List.setIfInBounds_toArray, List.set_cons_zero, List.set_cons_succ]
  refine wpAnyK_pure 42 (v := ?_) (i := 16) (fuel := 7) rfl rfl (by kernel_rfl) (by kernel_rfl) (by kernel_rfl) (by decide) (fun _ _ _ h => h) (Or.inl ⟨by rfl, fun w _ => ?_⟩) ?_; rotate_left; (go_simp; with_reducible rfl); simp only [Act.put, List.setIfInBounds_toArray, List.set_cons_zero, List.set_cons_succ]
  refine wpAnyK_pure 43 (v := ?_) (i := 17) (fuel := 6) rfl rfl (by kernel_rfl) (by kernel_rfl) (by kernel_rfl) (by decide) (fun _ _ _ h => h) (Or.inl ⟨by rfl, fun w _ => ?_⟩) ?_; rotate_left; (go_simp; with_reducible rfl); simp only [Act.put, List.setIfInBounds_toArray, List.set_cons_zero, List.set_cons_succ]
  refine wpAnyK_pure 44 (v := ?_) (i := 18) (fuel := 5) rfl rfl (by kernel_rfl) (by kernel_rfl) (by kernel_rfl) (by decide) (fun _ _ _ h => h) (Or.inl ⟨by rfl, fun w _ => ?_⟩) ?_; rotate_left; (go_simp; with_reducible rfl); simp only [Act.put, List.setIfInBounds_toArray, List.set_cons_zero, List.set_cons_succ]
  refine wpAnyK_load 45 (i := 19) (fuel := 4) rfl rfl (by kernel_rfl) (by kernel_rfl) (by kernel_rfl) (.inr (by decide)) (by decide) (fun _ _ _ h => h) rfl (fun w h => ex_load_at _ _ rfl bG oG rfl (u8s i3.1) q3.out (HG2.out _ (h.sl (some ⟨bG, oG, none⟩) 1 c2))) ?_; simp only [Act.put, List.setIfInBounds_toArray, List.set_cons_zero, List.set_cons_succ]
  refine wpAnyK_load 46 (i := 20) (fuel := 3) rfl rfl (by kernel_rfl) (by kernel_rfl) (by kernel_rfl) (.inr (by decide)) (by decide) (fun _ _ _ h => h) rfl (fun w h => ex_loadv h _ _ rfl _ _ rfl) ?_; simp only [Act.put, List.setIfInBounds_toArray, List.set_cons_zero, List.set_cons_succ]
  refine wpAnyK_load 47 (i := 21) (fuel := 2) rfl rfl (by kernel_rfl) (by kernel_rfl) (by kernel_rfl) (.inr (by decide)) (by decide) (fun _ _ _ h => h) rfl (fun w h => ex_eq _ _ _ _ rfl i3.1 i3.1 rfl rfl i3.2 i3.2 true heq) ?_; simp only [Act.put, List.setIfInBounds_toArray, List.set_cons_zero, List.set_cons_succ]
  refine wpAnyK_pure 48 (v := ?_) (i := 22) (fuel := 1) rfl rfl (by kernel_rfl) (by kernel_rfl) (by kernel_rfl) (by decide) (fun _ _ _ h => h) (Or.inl ⟨by rfl, fun w _ => ?_⟩) ?_; rotate_left; (go_simp; with_reducible rfl); simp only [Act.put, List.setIfInBounds_toArray, List.set_cons_zero, List.set_cons_succ]
  refine wpAnyK_pure 0 (v := ?_) (i := 23) (fuel := 0) rfl rfl (by kernel_rfl) (by kernel_rfl) (by kernel_rfl) (by decide) (fun _ _ _ h => h) (Or.inl ⟨by rfl, fun w _ => ?_⟩) ?_; rotate_left; (go_simp; with_reducible rfl); simp only [Act.put, List.setIfInBounds_toArray, List.set_cons_zero, List.set_cons_succ]
  refine wpAnyK_done (by kernel_rfl) ?_
  go_wp2
  go_ret
  exact ⟨rfl, h.to⟩
def fewM (ps : List ObAt) : Bool := ps.all (fun p => decide (p.links.length ≤ 20)) && decide (ps.length ≤ 30)
set_option maxRecDepth 100000 in
set_option maxHeartbeats 1000000 in
theorem few_obs {S : Nat → Prop} {w0 w : World} {L : List Ent} {A : Option Addr} {c : Nat} {ps : List ObAt} (h : St S w0 w L) [ka : HasObs obc L A ps.length c ps] :
    Calls Try.prog 12 #[.slice A ps.length c] w fun e w' => e = .returned (.bool (fewM ps)) ∧ St S w0 w' L := by
  have hc := (h.obsAt obc A ps.length c).1.le
  have hc2 := (h.obsAt obc A ps.length c).1.cap
  have Hc : Hid ((ps.length : Int) ≤ 9223372036854775807) := Lib.hid (by simp [maxLen] at hc2; omega)
  clear hc hc2
  go_enter Try.func12, Try.ntmps12
  go_wp2
  go_loopw [7] (fun iv wr => ∃ k : Nat, iv = .int .i64 (k : Int) ∧ k ≤ ps.length ∧ Hid ((ps.take k).all (fun p => decide (p.links.length ≤ 20)) = true) ∧ St S w0 wr L) (fun iv _ => ps.length - (intOf iv).toNat)
  case atStart => exact ⟨0, rfl, Nat.zero_le _, Lib.hid (by simp), h⟩
  case round =>
    clear h
    obtain ⟨k, rfl, hk, Hall, h⟩ := hrel
    by_cases hkl : k < ps.length
    · have f2 : (k : Int) < (ps.length : Int) := by omega
      have t1 : ((k : Int)).toNat = k := by omega
      have hcc := Hc.out
      obtain ⟨p, hp⟩ : ∃ p, ps[k] = p := ⟨_, rfl⟩
      have hpm : p ∈ ps := by rw [← hp]; exact List.getElem_mem _
      have hpn := (h.obsAt obc A ps.length c).2.n_eq hpm
      obtain ⟨b, off, rfl, _⟩ := (h.obsAt obc A ps.length c).1.pos (by omega)
      have hcs : ∀ {w}, Sl w (some ⟨b, off, none⟩) ps.length c 34 (ps.flatMap obc) → Cells w b (off + k * 34) (obc p) := fun hs => by rw [← hp]; exact hs.elemAt obc_length hkl (by omega)
      by_cases hs : p.links.length ≤ 20
      · have Hall2 : Hid ((ps.take (k + 1)).all (fun p => decide (p.links.length ≤ 20)) = true) := Lib.hid (by
          rw [List.take_succ_eq_append_getElem hkl, hp, List.all_append, Hall.out]
          simp [hs])
        have f3 : ¬ (20 : Int) < (p.n : Int) := by omega
        clear hp hpn hs
        obtain ⟨pA, pn, pc, pi, pl, px⟩ := p
        simp only at f3
        have hrx : Row (u8s pi.1) 32 := Row.u32 pi
        go_wp2_with (first
          | (refine wl_at 10 rfl ?_; refine wl_reads rfl (ex_load_at _ _ rfl b (off + k * 34) rfl ((c_api_Object (u8s pi.1) (.slice pA pn pc) (.int .i64 px))) (obc_length ⟨pA, pn, pc, pi, pl, px⟩) (hcs (h.obsAt obc (some ⟨b, off, none⟩) ps.length c).1)) ?_)
          | (refine wl_at 4 rfl ?_; refine wl_runs rfl (ex_alloc h 44 rfl) ?_; clear h; rintro _ w ⟨g10, rfl, h⟩)
          | (refine wl_none rfl ?_; refine wl_runs rfl (ex_store h _ _ _ rfl _ _ rfl ((c_api_Object (u8s pi.1) (.slice pA pn pc) (.int .i64 px))) rfl) ?_; clear h; rintro _ w ⟨rfl, h⟩; try dsimp only [Act.put])
          | (refine wl_at 12 rfl ?_; refine wl_reads rfl (ex_loadv h _ _ rfl _ _ rfl) ?_))
        refine ⟨⟨k + 1, by push_cast; rfl, by omega, Hall2, h.to⟩, ?_⟩
        simp only [intOf]
        omega
      · have Hd : Hid (fewM ps = false) := Lib.hid (by
          have : ps.all (fun p => decide (p.links.length ≤ 20)) = false := by
            rw [List.all_eq_false]
            exact ⟨p, hpm, by simpa using hs⟩
          rw [fewM, this, Bool.false_and])
        have f3 : (20 : Int) < (p.n : Int) := by omega
        clear hp hpn hs
        obtain ⟨pA, pn, pc, pi, pl, px⟩ := p
        simp only at f3
        have hrx : Row (u8s pi.1) 32 := Row.u32 pi
        go_wp2_with (first
          | (refine wl_at 10 rfl ?_; refine wl_reads rfl (ex_load_at _ _ rfl b (off + k * 34) rfl ((c_api_Object (u8s pi.1) (.slice pA pn pc) (.int .i64 px))) (obc_length ⟨pA, pn, pc, pi, pl, px⟩) (hcs (h.obsAt obc (some ⟨b, off, none⟩) ps.length c).1)) ?_)
          | (refine wl_at 4 rfl ?_; refine wl_runs rfl (ex_alloc h 44 rfl) ?_; clear h; rintro _ w ⟨g10, rfl, h⟩)
          | (refine wl_none rfl ?_; refine wl_runs rfl (ex_store h _ _ _ rfl _ _ rfl ((c_api_Object (u8s pi.1) (.slice pA pn pc) (.int .i64 px))) rfl) ?_; clear h; rintro _ w ⟨rfl, h⟩; try dsimp only [Act.put])
          | (refine wl_at 12 rfl ?_; refine wl_reads rfl (ex_loadv h _ _ rfl _ _ rfl) ?_))
        go_ret
        exact ⟨by rw [Hd.out]; rfl, h.to⟩
    · obtain rfl : k = ps.length := by omega
      have hkk : ¬ ((ps.length : Int) < (ps.length : Int)) := by omega
      have Hd : Hid (fewM ps = decide (ps.length ≤ 30)) := Lib.hid (by
        have := Hall.out
        rw [List.take_length] at this
        rw [fewM, this, Bool.true_and])
      have f4 : decide ((ps.length : Int) ≤ 30) = decide (ps.length ≤ 30) := by
        apply decide_eq_decide.2
        omega
      clear hkl
      go_wp2
      go_ret
      exact ⟨by rw [Hd.out]; first | rfl | rw [f4] | rw [← f4] | simp [f4], h.to⟩
theorem few_lens {ps : List ObAt} (h : fewM ps = true) : ps.length ≤ 30 ∧ ∀ p ∈ ps, p.links.length ≤ 20 := by
  simp only [fewM, Bool.and_eq_true, List.all_eq_true, decide_eq_true_eq] at h
  exact ⟨h.2, h.1⟩
end Go.Proofs.Ytionnlckjjojnaa
