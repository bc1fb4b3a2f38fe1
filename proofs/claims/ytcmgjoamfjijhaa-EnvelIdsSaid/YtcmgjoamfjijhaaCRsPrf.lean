/- The reference's keyed words. -/
import Derived.Test.YtcmgjoamfjijhaaCRsIdeal
import Derived.Test.YtcmgjoamfjijhaaCMacRef
namespace Go.Proofs.Ytcmgjoamfjijhaa
open Go.RowKit Go.Maps
set_option linter.unusedVariables false
set_option linter.unusedSimpArgs false

/-- A literal's block as a row. -/
theorem St.blkRow {S : Nat → Prop} {w0 w : World} {L F : List Ent} (h : St S w0 w L) (g : Nat) {n : Nat} {t : TypeId} {xs : List Value} [k : SlotB L g t xs F] [r : Row xs n] : St S w0 w (eOwn t 1 (some ⟨g, 0, none⟩) n n xs :: F) :=
  h.recast (k := ⟨k.perm⟩) (eOwn t 1 (some ⟨g, 0, none⟩) n n xs)
    ⟨by rw [r.len, Nat.mul_one], .inr ⟨g, 0, xs.toArray, rfl, h.blk g (k := k), Nat.le_refl _, by have := r.small; simp [maxLen]; omega, by simp [r.len], by simp [List.take_of_length_le, r.len]⟩⟩
    (fun i hi => by obtain ⟨a, ha, rfl⟩ := hi; cases ha; rfl) (fun _ hk => hk)
/-- Keys and ids are 32 bytes. -/
def RsOk (s : PRs) : Prop := ∀ x ∈ s.rows, x.1 = 1 ∨ x.1 = 2 → x.2.2.2.2.length = 32
theorem pfind_mem {rows : List PR} {q : Nat} {k : Id} {lab inp : List UInt8} {x : PR} (h : pfind rows q k lab inp = some x) : x ∈ rows ∧ x.1 = q := by
  refine ⟨List.mem_of_find?_eq_some h, ?_⟩
  have := List.find?_some h
  unfold phit at this
  simp at this
  exact this.1
theorem ridealM_ok {q : Nat} {k : Id} {lab inp : List UInt8} {n : Nat} {s : PRs} (h : RsOk s) (hn : q = 1 ∨ q = 2 → n = 32) : RsOk (ridealM q k lab inp n s).2.2 := by
  unfold ridealM
  split
  · exact h
  · split
    · intro x hx hq
      rcases List.mem_append.1 hx with hx | hx
      · exact h x hx hq
      · rw [List.mem_singleton] at hx
        subst hx
        have hn2 := hn hq
        simp only [List.length_take]
        omega
    · exact h
theorem ridealM_32 {q : Nat} {k : Id} {lab inp : List UInt8} {s : PRs} (h : RsOk s) (hq : q = 1 ∨ q = 2) (he : (ridealM q k lab inp 32 s).2.1 = 0) : (ridealM q k lab inp 32 s).1.length = 32 := by
  revert he
  unfold ridealM
  split
  · rename_i x hx
    intro _
    have := pfind_mem hx
    exact h x this.1 (by rw [this.2]; exact hq)
  · split
    · intro _
      simp only [List.length_take]
      omega
    · intro he; cases he
def rprfM (k : Id) (lab : UInt8) (b : List UInt8) (s : PRs) : List UInt8 × Nat × PRs :=
  if s.mode = 0 then (macM k.1 (lab :: b), 0, s)
  else if (ridealM 1 k [lab] b 32 s).2.1 = 0 then ridealM 1 k [lab] b 32 s else (zeros 32, (ridealM 1 k [lab] b 32 s).2)
theorem rprfM_ok {k : Id} {lab : UInt8} {b : List UInt8} {s : PRs} (h : RsOk s) : RsOk (rprfM k lab b s).2.2 := by
  have hi := ridealM_ok (q := 1) (k := k) (lab := [lab]) (inp := b) (n := 32) h (fun _ => rfl)
  unfold rprfM
  split
  · exact h
  · split <;> exact hi
set_option maxRecDepth 100000 in
set_option maxHeartbeats 2000000 in
theorem rs_prf {S : Nat → Prop} {w0 w : World} {L F : List Ent} {g : Nat} {k : RsAt} {s : RSu} {A : Option Addr} {n c : Nat} {b : List UInt8} (h : St S w0 w L) [sl : SlotV L g k s F] [ka : HasSl F A n c 1 (u8s b)] (key : Id) (lab : UInt8) (hn : n ≤ 100000) (hr0 : s.rows.length ≤ 1000000) (hok : RsOk s.pr) :
    Calls Try.prog 49 #[.pointer (some ⟨g, 0, none⟩), .agg (u8s key.1).toArray, .int .u8 (lab.toNat : Int), .slice A n c] w fun e w' => e = .returned (.tuple #[.agg (u8s (rprfM key lab b s.pr).1).toArray, .int .i64 ((rprfM key lab b s.pr).2.1 : Int)]) ∧ ∃ k' s', s'.pr = (rprfM key lab b s.pr).2.2 ∧ St S w0 w' (eRs g k' s' :: F) := by
  replace h := h.rsOpen g
  have hrk := Row.u32 key
  have tr := True.intro
  by_cases hm0 : s.mode = 0
  · have hd : rprfM key lab b s.pr = (macM key.1 (lab :: b), 0, s.pr) := by unfold rprfM; exact if_pos hm0
    rw [hd]
    have f1 : ((s.mode : Int) == 0) = true := by simp [hm0]
    have hr1 : Row (u8s [lab]) 1 := Row.mk' rfl (u8s_one _) (by omega)
    have hr2 : Row (u8s (macM key.1 (lab :: b))) 32 := Row.mk' (by rw [u8s_length, macM_length]) (u8s_one _) (by omega)
    have hX : macM key.1 (lab :: b) = macM key.1 ([lab] ++ b) := rfl
    have HX := Lib.hid hX.symm
    have Hap := Lib.hid (u8s_append [lab] b)
    clear hd hm0 hX
    generalize macM key.1 (lab :: b) = X at *
    go_enter Try.func49, Try.ntmps49
    go_wp2_with (first
      | (refine wl_runs rfl (ex_box h 29 _ rfl (u8s key.1) rfl) ?_; clear h; rintro _ w ⟨g5, rfl, h⟩)
      | (refine wl_runs rfl (ex_alloc h 29 rfl) ?_; clear h; rintro _ w ⟨gr, rfl, h⟩)
      | (refine wl_reads rfl (ex_loadv h _ _ rfl _ _ rfl) ?_) | (refine wl_runs rfl (ex_store h _ _ _ rfl _ _ rfl _ rfl) ?_; clear h; rintro _ w ⟨rfl, h⟩; try dsimp only [Act.put]) | (refine wl_reads rfl (ex_lit0 _ rfl) ?_))
    refine wp_region_K 6 (fun w' => St _ _ w' _) (by kernel_rfl) h.drew ?_; replace h := h.drew
    refine wpAnyK_pure 17 (v := ?_) (i := 0) (fuel := 7) rfl rfl (by kernel_rfl) (by kernel_rfl) (by kernel_rfl) (by decide) (fun _ _ _ h => h) (Or.inl ⟨by rfl, fun w _ => ?_⟩) ?_; rotate_left; (go_simp; with_reducible rfl); simp only [Act.put, List.setIfInBounds_toArray, List.set_cons_zero, List.set_cons_succ]
    refine wpAnyK_pure 18 (v := ?_) (i := 1) (fuel := 6) rfl rfl (by kernel_rfl) (by kernel_rfl) (by kernel_rfl) (by decide) (fun _ _ _ h => h) (Or.inl ⟨by rfl, fun w _ => ?_⟩) ?_; rotate_left; (go_simp; with_reducible rfl); simp only [Act.put, List.setIfInBounds_toArray, List.set_cons_zero, List.set_cons_succ]
    refine wpAnyK_pure 20 (v := ?_) (i := 3) (fuel := 5) rfl rfl (by kernel_rfl) (by kernel_rfl) (by kernel_rfl) (by decide) (fun _ _ _ h => h) (Or.inl ⟨by rfl, fun w _ => ?_⟩) ?_; rotate_left; (go_simp; with_reducible rfl); simp only [Act.put, List.setIfInBounds_toArray, List.set_cons_zero, List.set_cons_succ]
    refine wpAnyK_one (i := 2) (fuel := 4) rfl (by kernel_rfl) rfl (fun K hK => ?_)
    refine op_runs (some 19) rfl (ex_slice1i h _ _ rfl _ _ rfl) ?_; clear h; rintro _ w ⟨gl, rfl, h⟩; replace h : St _ _ w (eBlk gl 5 (u8s [lab]) :: _) := h; refine hK.out _ _ (fun _ => h.to) ?_; clear hK K
    try simp only [Act.put, List.setIfInBounds_toArray, List.set_cons_zero, List.set_cons_succ]
    refine wpAnyK_one (i := 4) (fuel := 3) rfl (by kernel_rfl) rfl (fun K hK => ?_)
    replace h := h.blkRow gl; refine op_runs (some 21) rfl (ex_append h _ _ _ rfl (some ⟨gl, 0, none⟩) rfl A n c rfl (h.sl A n c) (u8s_one _) (by simp [maxLen]; omega) (by omega)) ?_; clear h; rintro _ w ⟨A4, c4, rfl, h⟩; rw [Hap.out] at h; refine hK.out _ _ (fun _ => h.to) ?_; clear hK K
    try simp only [Act.put, List.setIfInBounds_toArray, List.set_cons_zero, List.set_cons_succ]
    refine wpAnyK_one (i := 5) (fuel := 2) rfl (by kernel_rfl) rfl (fun K hK => ?_)
    (go_simp; go_wp2_with (go_at_call 63; refine (mac_ref (A := some ⟨g5, 0, none⟩) (n := 32) (c := 32) (key := key.1) (B := A4) (m := 1 + n) (d := c4) (text := [lab] ++ b) h (by omega) (by omega)).mono ?_; rw [HX.out]; clear h; rintro e w ⟨rfl, h⟩)); refine hK.out _ _ (fun _ => h.to) ?_; clear hK K
    try simp only [Act.put, List.setIfInBounds_toArray, List.set_cons_zero, List.set_cons_succ]
    refine wpAnyK_one (i := 6) (fuel := 1) rfl (by kernel_rfl) rfl (fun K hK => ?_)
    refine op_runs none rfl (ex_store h _ _ _ rfl _ _ rfl _ rfl) ?_; clear h; rintro _ w ⟨rfl, h⟩; refine hK.out _ _ (SJ.past (by kernel_rfl)) ?_; clear hK K
    try simp only [Act.put, List.setIfInBounds_toArray, List.set_cons_zero, List.set_cons_succ]
    refine wpAnyK_pure 9 (v := ?_) (i := 7) (fuel := 0) rfl rfl (by kernel_rfl) (by kernel_rfl) (by kernel_rfl) (by decide) (fun _ _ _ h => h) (Or.inl ⟨by rfl, fun w _ => ?_⟩) ?_; rotate_left; (go_simp; with_reducible rfl); simp only [Act.put, List.setIfInBounds_toArray, List.set_cons_zero, List.set_cons_succ]
    refine wpAnyK_done (by kernel_rfl) ?_
    go_wp2_with (first | (refine wl_reads rfl (ex_loadv h _ _ rfl _ _ rfl) ?_) | (refine wl_runs rfl (ex_store1i h _ _ _ rfl _ _ rfl _ _ rfl) ?_; clear h; rintro _ w ⟨rfl, h⟩; try dsimp only [Act.put]) | (refine wl_runs rfl (ex_store1s h _ _ _ rfl _ _ rfl _ _ _ rfl) ?_; clear h; rintro _ w ⟨rfl, h⟩; try dsimp only [Act.put]) | (refine wl_runs rfl (ex_store1b h _ _ _ rfl _ _ rfl _ rfl) ?_; clear h; rintro _ w ⟨rfl, h⟩; try dsimp only [Act.put]) | (refine wl_runs rfl (ex_store1t h _ _ _ rfl _ _ rfl _ rfl) ?_; clear h; rintro _ w ⟨rfl, h⟩; try dsimp only [Act.put]) | (refine wl_runs rfl (ex_store1p h _ _ _ rfl _ _ rfl _ rfl) ?_; clear h; rintro _ w ⟨rfl, h⟩; try dsimp only [Act.put]) | (refine wl_runs rfl (ex_store1m h _ _ _ rfl _ _ rfl _ rfl) ?_; clear h; rintro _ w ⟨rfl, h⟩; try dsimp only [Act.put]) | (refine wl_runs rfl (ex_store h _ _ _ rfl _ _ rfl _ rfl) ?_; clear h; rintro _ w ⟨rfl, h⟩; try dsimp only [Act.put]) | (refine wl_runs rfl (ex_alloc h _ rfl) ?_; clear h; rintro _ w ⟨g, rfl, h⟩) | (refine wl_runs rfl (ex_box h _ _ rfl _ rfl) ?_; clear h; rintro _ w ⟨g, rfl, h⟩) | (refine wl_runs rfl (ex_box1i h _ _ rfl _ _ rfl) ?_; clear h; rintro _ w ⟨g, rfl, h⟩) | (refine wl_runs rfl (ex_box1s h _ _ rfl _ _ _ rfl) ?_; clear h; rintro _ w ⟨g, rfl, h⟩) | (refine wl_runs rfl (ex_box1b h _ _ rfl _ rfl) ?_; clear h; rintro _ w ⟨g, rfl, h⟩) | (refine wl_runs rfl (ex_box1t h _ _ rfl _ rfl) ?_; clear h; rintro _ w ⟨g, rfl, h⟩) | (refine wl_runs rfl (ex_box1p h _ _ rfl _ rfl) ?_; clear h; rintro _ w ⟨g, rfl, h⟩) | (refine wl_runs rfl (ex_box1m h _ _ rfl _ rfl) ?_; clear h; rintro _ w ⟨g, rfl, h⟩) | (refine wl_runs rfl (ex_slice1 h _ _ rfl _ rfl) ?_; clear h; rintro _ w ⟨g, rfl, h⟩) | (refine wl_runs rfl (ex_slice1i h _ _ rfl _ _ rfl) ?_; clear h; rintro _ w ⟨g, rfl, h⟩) | (refine wl_runs rfl (ex_slice1s h _ _ rfl _ _ _ rfl) ?_; clear h; rintro _ w ⟨g, rfl, h⟩) | (refine wl_runs rfl (ex_slice1b h _ _ rfl _ rfl) ?_; clear h; rintro _ w ⟨g, rfl, h⟩) | (refine wl_runs rfl (ex_slice1t h _ _ rfl _ rfl) ?_; clear h; rintro _ w ⟨g, rfl, h⟩) | (refine wl_runs rfl (ex_slice1p h _ _ rfl _ rfl) ?_; clear h; rintro _ w ⟨g, rfl, h⟩) | (refine wl_runs rfl (ex_slice1m h _ _ rfl _ rfl) ?_; clear h; rintro _ w ⟨g, rfl, h⟩) | (refine wl_reads rfl (ex_lit0 _ rfl) ?_))
    refine bodyPost_ret (res_cell_tmp rfl rfl rfl (h.loadVar 29 gr 0)) rfl ?_
    have h2 : St S w0 w (RSP g k s F) := h.to
    exact ⟨rfl, _, s, rfl, h2.rsShut⟩
  · have f1 : ((s.mode : Int) == 0) = false := by simp; omega
    have hp : rprfM key lab b s.pr = if (ridealM 1 key [lab] b 32 s.pr).2.1 = 0 then ridealM 1 key [lab] b 32 s.pr else (zeros 32, (ridealM 1 key [lab] b 32 s.pr).2) := by unfold rprfM; exact if_neg hm0
    rw [hp]
    have hl := ridealM_32 (q := 1) (k := key) (lab := [lab]) (inp := b) hok (.inl rfl)
    obtain ⟨x, e0, p1, hi⟩ : ∃ x e0 p1, ridealM 1 key [lab] b 32 s.pr = (x, e0, p1) := ⟨_, _, _, rfl⟩
    have hcall := fun (Sx : Nat → Prop) (wx wy : World) (gl : Nat) (Fx : List Ent) (kq : HasSl Fx A n c 1 (u8s b)) (kl : HasSl Fx (some ⟨gl, 0, none⟩) 1 1 1 (u8s [lab])) (hx : St Sx wx wy (eRs g k s :: Fx)) => rs_ideal (g := g) (A := some ⟨gl, 0, none⟩) (n := 1) (c := 1) (lab := [lab]) (B := A) (m := n) (d := c) (inp := b) hx 1 (by omega) key 32 (by omega) hr0 (by omega) (by omega)
    rw [hi] at hl hcall ⊢
    have Hc := Lib.hid hcall
    have hr1 : Row (u8s [lab]) 1 := Row.mk' rfl (u8s_one _) (by omega)
    simp only at hl ⊢
    clear hp hi hcall hm0
    by_cases he : e0 = 0
    · rw [if_pos he]
      subst he
      have hxl := hl rfl
      obtain ⟨d, hd⟩ : ∃ d : Id, d.1 = x := ⟨⟨x, hxl⟩, rfl⟩
      subst hd
      clear hxl hl
      have Hdl := Lib.hid d.2
      have hr := Row.u32 d
      have hat : ∀ (b0 off c : Nat) W', (Instr.arrayAt 29 (.slice (some ⟨b0, off, none⟩) 32 c)).run Try.prog W' = .ok (.pointer (some ⟨b0, off, none⟩)) W' := fun b0 off c W' => run_arrayAt _ _ _ 32 _ _ _ Try.underlying29 (Nat.le_refl _)
      go_enter Try.func49, Try.ntmps49
      go_wp2_with (first
        | (refine wl_runs rfl (ex_box h 29 _ rfl (u8s key.1) rfl) ?_; clear h; rintro _ w ⟨g5, rfl, h⟩)
        | (refine wl_runs rfl (ex_alloc h 29 rfl) ?_; clear h; rintro _ w ⟨gr, rfl, h⟩)
        | (refine wl_runs rfl (ex_slice1i h _ _ rfl _ _ rfl) ?_; clear h; rintro _ w ⟨gl, rfl, h⟩; replace h : St _ _ w (eBlk gl 5 (u8s [lab]) :: _) := h)
        | (go_at_call 78; replace h : St S w0 w (RSP g k s (eBlk gl 5 (u8s [lab]) :: eBlk gr 29 (u8s (zeros 32)) :: F)) := h.to; replace h := h.rsShut; refine (Hc.out _ _ _ gl _ inferInstance inferInstance h).mono ?_; clear h; simp only [Hdl.out]; rintro e w ⟨A1, c1, k1, s1, rfl, hs1, h⟩; obtain ⟨b0, off, rfl, hbl, hcs⟩ := (h.sl A1 32 c1).pos (by omega))
        | (refine wl_reads rfl (ex_load_at _ _ rfl b0 off rfl (u8s d.1) (by rw [u8s_length, d.2]) hcs) ?_)
        | (refine wl_reads rfl (ex_loadv h _ _ rfl _ _ rfl) ?_) | (refine wl_runs rfl (ex_store h _ _ _ rfl _ _ rfl _ rfl) ?_; clear h; rintro _ w ⟨rfl, h⟩; try dsimp only [Act.put]) | (refine wl_reads rfl (ex_lit0 _ rfl) ?_))
      refine bodyPost_ret (res_cell_tmp rfl rfl rfl (h.loadVar 29 gr 0)) rfl ?_
      exact ⟨rfl, k1, s1, hs1, h.to⟩
    · rw [if_neg he]
      have f2 : ((e0 : Int) == 0) = false := by simp; omega
      have f3 : ((e0 : Int) != 0) = true := by simp; omega
      clear hl
      go_enter Try.func49, Try.ntmps49
      go_wp2_with (first
        | (refine wl_runs rfl (ex_box h 29 _ rfl (u8s key.1) rfl) ?_; clear h; rintro _ w ⟨g5, rfl, h⟩)
        | (refine wl_runs rfl (ex_alloc h 29 rfl) ?_; clear h; rintro _ w ⟨gr, rfl, h⟩)
        | (refine wl_runs rfl (ex_slice1i h _ _ rfl _ _ rfl) ?_; clear h; rintro _ w ⟨gl, rfl, h⟩; replace h : St _ _ w (eBlk gl 5 (u8s [lab]) :: _) := h)
        | (go_at_call 78; replace h : St S w0 w (RSP g k s (eBlk gl 5 (u8s [lab]) :: eBlk gr 29 (u8s (zeros 32)) :: F)) := h.to; replace h := h.rsShut; refine (Hc.out _ _ _ gl _ inferInstance inferInstance h).mono ?_; clear h; rintro e w ⟨A1, c1, k1, s1, rfl, hs1, h⟩)
        | (refine wl_reads rfl (ex_loadv h _ _ rfl _ _ rfl) ?_) | (refine wl_runs rfl (ex_store h _ _ _ rfl _ _ rfl _ rfl) ?_; clear h; rintro _ w ⟨rfl, h⟩; try dsimp only [Act.put]) | (refine wl_reads rfl (ex_lit0 _ rfl) ?_))
      refine bodyPost_ret (res_cell_tmp rfl rfl rfl (h.loadVar 29 gr 0)) rfl ?_
      exact ⟨rfl, k1, s1, hs1, h.to⟩
end Go.Proofs.Ytcmgjoamfjijhaa
