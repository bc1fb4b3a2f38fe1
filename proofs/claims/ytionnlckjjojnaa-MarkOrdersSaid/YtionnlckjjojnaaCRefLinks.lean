/- Links: the reference's. -/
import Derived.Test.YtionnlckjjojnaaCLinksM
import Derived.Test.YtionnlckjjojnaaCB2
import Derived.Test.YtionnlckjjojnaaCB1
import Derived.Test.YtionnlckjjojnaaCOrder
import Derived.Test.YtionnlckjjojnaaCTy
namespace Go.Proofs.Ytionnlckjjojnaa
open Go.RowKit
set_option linter.unusedVariables false
set_option linter.unusedSimpArgs false

/-- The place of an id in a rising list. -/
structure PlaceI (l : List Id) (x : Id) (k : Nat) : Prop where
  le : k ≤ l.length
  bef : ∀ j (hj : j < l.length), j < k → lessI l[j] x = true
theorem insI_at : ∀ {l : List Id} {x : Id} {k : Nat}, PlaceI l x k → (∀ h : k < l.length, lessI l[k] x = false) → insI l x = if h : k < l.length then (if l[k] = x then l else l.take k ++ x :: l.drop k) else l ++ [x]
  | [], x, k, hp, hn => by simp [insI]
  | y :: l, x, 0, hp, hn => by
    have h0 := hn (by simp)
    simp only [List.getElem_cons_zero] at h0
    rw [insI, if_neg (by rw [h0]; simp)]
    simp
  | y :: l, x, k + 1, hp, hn => by
    have h0 := hp.bef 0 (by simp) (by omega)
    simp only [List.getElem_cons_zero] at h0
    rw [insI, if_pos h0, insI_at (l := l) (x := x) (k := k) ⟨by have := hp.le; simp at this; omega, fun j hj hjk => (by have h9 := hp.bef (j + 1) (by simp; omega) (by omega); exact h9)⟩ (fun h => (by have h9 := hn (by simp; omega); exact h9))]
    by_cases hk : k < l.length
    · simp only [hk, dif_pos, List.length_cons, Nat.add_lt_add_iff_right, List.getElem_cons_succ]
      split
      · rfl
      · simp
    · simp [hk]
set_option maxRecDepth 100000 in
set_option maxHeartbeats 2000000 in
theorem ref_links {S : Nat → Prop} {w0 w : World} {L : List Ent} {A : Option Addr} {n c : Nat} {l : List Id} (h : St S w0 w L) [ka : HasSl L A n c 32 (l.flatMap idc)] (hl : l.length ≤ 1000000) :
    Calls Try.prog 39 #[.slice A n c] w fun e w' => ∃ A1 c1, e = .returned (.slice A1 (linksM l).length c1) ∧ St S w0 w' (eOwn 33 32 A1 (linksM l).length c1 ((linksM l).flatMap idc) :: L) := by
  have hn := (h.sl A n c).n_flat idc_length (by omega)
  subst hn
  have ka2 := ka
  go_enter Try.func39, Try.ntmps39
  go_wp2
  go_loopw [3, 9] (fun ov iv wr => ∃ (i : Nat) (B : Option Addr) (d : Nat) (out : List Id), ov = .slice B out.length d ∧ iv = .int .i64 (i : Int) ∧ i ≤ l.length ∧ Hid (out = linksM (l.take i)) ∧ out.length ≤ i ∧ St S w0 wr (eOwn 33 32 B out.length d (out.flatMap idc) :: L)) (fun _ iv _ => l.length - (intOf iv).toNat)
  case atStart => exact ⟨0, none, 0, [], rfl, rfl, Nat.zero_le _, Lib.hid (by simp [linksM]), by simp, h.nilRow _ _⟩
  case round =>
    clear h
    obtain ⟨i, B, d, out, rfl, rfl, hi, Ho, hoi, h⟩ := hrel
    by_cases hil : i < l.length
    · have f1 : (i : Int) < (l.length : Int) := by omega
      have t0 : ((i : Int)).toNat = i := by omega
      obtain ⟨x, hx⟩ : ∃ x, l[i] = x := ⟨_, rfl⟩
      obtain ⟨bA, oA, rfl, _⟩ := (h.sl A l.length c).pos (by omega)
      have hcA : ∀ {w}, Sl w (some ⟨bA, oA, none⟩) l.length c 32 (l.flatMap idc) → Cells w bA (oA + i * 32) (u8s x.1) := fun hs => by rw [← hx]; exact hs.elemAt idc_length hil (by omega)
      have hrx : Row (u8s x.1) 32 := Row.u32 x
      have Hx := Lib.hid hx
      clear hx
      go_wp2_with (first
        | (refine wl_at 12 rfl ?_; refine wl_reads rfl (ex_load_at _ _ rfl bA (oA + i * 32) rfl (u8s x.1) (by rw [u8s_length, x.2]) (hcA (h.sl (some ⟨bA, oA, none⟩) l.length c))) ?_)
        | (refine wl_runs rfl (ex_alloc h 33 rfl) ?_; clear h; rintro _ w ⟨gx, rfl, h⟩)
        | (refine wl_none rfl ?_; refine wl_runs rfl (ex_store h _ _ _ rfl _ _ rfl (u8s x.1) rfl) ?_; clear h; rintro _ w ⟨rfl, h⟩; try dsimp only [Act.put]))
      -- ROUND
      have Ht := Lib.hid (show l.take (i + 1) = l.take i ++ [x] by rw [List.take_succ_eq_append_getElem hil, Hx.out])
      go_loopw [6] (fun kv wr => ∃ k : Nat, kv = .int .i64 (k : Int) ∧ k ≤ out.length ∧ Hid (PlaceI out x k) ∧ St S w0 wr (eBlk gx 33 (u8s x.1) :: eOwn 33 32 B out.length d (out.flatMap idc) :: L)) (fun kv _ => out.length - (intOf kv).toNat)
      case atStart => exact ⟨0, rfl, Nat.zero_le _, Lib.hid ⟨Nat.zero_le _, fun j hj h0 => by omega⟩, h⟩
      case round =>
        clear h
        obtain ⟨k, rfl, hk, HP, h⟩ := hrel
        have hdl := (h.sl B out.length d).le
        have hdc : d ≤ 9223372036854775807 := by have := (h.sl B out.length d).cap; simpa [maxLen] using this
        have tk : ((k : Int)).toNat = k := by omega
        by_cases hkn : k < out.length
        · have g1 : (k : Int) < (out.length : Int) := by omega
          obtain ⟨z, hz⟩ : ∃ z, out[k] = z := ⟨_, rfl⟩
          obtain ⟨bB, oB, rfl, _⟩ := (h.sl B out.length d).pos (by omega)
          have hcB : ∀ {w}, Sl w (some ⟨bB, oB, none⟩) out.length d 32 (out.flatMap idc) → Cells w bB (oB + k * 32) (u8s z.1) := fun hs => by rw [← hz]; exact hs.elemAt idc_length hkn (by omega)
          have Hz := Lib.hid hz
          have hrz : Row (u8s z.1) 32 := Row.u32 z
          clear hz
          go_upto_region 6 with (fail)
          by_cases hlt : lessI z x = true
          · have hlz := Lib.hid (show lessM z.1 x.1 = true from hlt)
            have Hlt := Lib.hid hlt
            clear hlt
            refine wp_region_K 12 (fun w' => St _ _ w' _) (by kernel_rfl) h.drew ?_; replace h := h.drew
            refine wpAnyK_pure 13 (v := ?_) (i := 0) (fuel := 11) rfl rfl (by kernel_rfl) (by kernel_rfl) (by kernel_rfl) (by decide) (fun _ _ _ h => h) (Or.inl ⟨by rfl, fun w _ => ?_⟩) ?_; rotate_left; (go_simp; with_reducible rfl); simp only [Act.put, List.setIfInBounds_toArray, List.set_cons_zero, List.set_cons_succ]
            refine wpAnyK_pure 14 (v := ?_) (i := 1) (fuel := 10) rfl rfl (by kernel_rfl) (by kernel_rfl) (by kernel_rfl) (by decide) (fun _ _ _ h => h) (Or.inl ⟨by rfl, fun w _ => ?_⟩) ?_; rotate_left; (go_simp; with_reducible rfl); simp only [Act.put, List.setIfInBounds_toArray, List.set_cons_zero, List.set_cons_succ]
            refine wpAnyK_pure 15 (v := ?_) (i := 2) (fuel := 9) rfl rfl (by kernel_rfl) (by kernel_rfl) (by kernel_rfl) (by decide) (fun _ _ _ h => h) (Or.inl ⟨by rfl, fun w _ => ?_⟩) ?_; rotate_left; (go_simp; with_reducible rfl); simp only [Act.put, List.setIfInBounds_toArray, List.set_cons_zero, List.set_cons_succ]
            refine wpAnyK_pure 16 (v := ?_) (i := 3) (fuel := 8) rfl rfl (by kernel_rfl) (by kernel_rfl) (by kernel_rfl) (by decide) (fun _ _ _ h => h) (Or.inl ⟨by rfl, fun w _ => ?_⟩) ?_; rotate_left; (go_simp; with_reducible rfl); simp only [Act.put, List.setIfInBounds_toArray, List.set_cons_zero, List.set_cons_succ]
            refine wpAnyK_pure 17 (v := ?_) (i := 4) (fuel := 7) rfl rfl (by kernel_rfl) (by kernel_rfl) (by kernel_rfl) (by decide) (fun _ _ _ h => h) (Or.inl ⟨by rfl, fun w _ => ?_⟩) ?_; rotate_left; (go_simp; with_reducible rfl); simp only [Act.put, List.setIfInBounds_toArray, List.set_cons_zero, List.set_cons_succ]
            refine wpAnyK_pure 18 (v := ?_) (i := 5) (fuel := 6) rfl rfl (by kernel_rfl) (by kernel_rfl) (by kernel_rfl) (by decide) (fun _ _ _ h => h) (Or.inl ⟨by rfl, fun w _ => ?_⟩) ?_; rotate_left; (go_simp; with_reducible rfl); simp only [Act.put, List.setIfInBounds_toArray, List.set_cons_zero, List.set_cons_succ]
            refine wpAnyK_pure 19 (v := ?_) (i := 6) (fuel := 5) rfl rfl (by kernel_rfl) (by kernel_rfl) (by kernel_rfl) (by decide) (fun _ _ _ h => h) (Or.inl ⟨by rfl, fun w _ => ?_⟩) ?_; rotate_left; (go_simp; with_reducible rfl); simp only [Act.put, List.setIfInBounds_toArray, List.set_cons_zero, List.set_cons_succ]
            refine wpAnyK_pure 20 (v := ?_) (i := 7) (fuel := 4) rfl rfl (by kernel_rfl) (by kernel_rfl) (by kernel_rfl) (by decide) (fun _ _ _ h => h) (Or.inl ⟨by rfl, fun w _ => ?_⟩) ?_; rotate_left; (go_simp; with_reducible rfl); simp only [Act.put, List.setIfInBounds_toArray, List.set_cons_zero, List.set_cons_succ]
            refine wpAnyK_load 21 (i := 8) (fuel := 3) rfl rfl (by kernel_rfl) (by kernel_rfl) (by kernel_rfl) (.inr (by decide)) (by decide) (fun _ _ _ h => h) rfl (fun w h => ex_load_at _ _ rfl bB (oB + k * 32) rfl (u8s z.1) (by rw [u8s_length, z.2]) (hcB (h.sl (some ⟨bB, oB, none⟩) out.length d))) ?_; simp only [Act.put, List.setIfInBounds_toArray, List.set_cons_zero, List.set_cons_succ]
            refine wpAnyK_load 22 (i := 9) (fuel := 2) rfl rfl (by kernel_rfl) (by kernel_rfl) (by kernel_rfl) (.inr (by decide)) (by decide) (fun _ _ _ h => h) rfl (fun w h => ex_loadv h _ _ rfl _ _ rfl) ?_; simp only [Act.put, List.setIfInBounds_toArray, List.set_cons_zero, List.set_cons_succ]
            refine wpAnyK_one (i := 10) (fuel := 1) rfl (by kernel_rfl) rfl (fun K hK => ?_)
            (go_simp; go_wp2_with (go_at_call 62; refine (less_ref (a := z) (b := x)).mono ?_; rw [hlz.out]; rintro e w ⟨rfl, hs⟩; replace h := h.quiet hs; clear hs)); refine hK.out _ _ (fun _ => h.to) ?_; clear hK K
            try simp only [Act.put, List.setIfInBounds_toArray, List.set_cons_zero, List.set_cons_succ]
            refine wpAnyK_pure 24 (v := ?_) (i := 11) (fuel := 0) rfl rfl (by kernel_rfl) (by kernel_rfl) (by kernel_rfl) (by decide) (fun _ _ _ h => h) (Or.inl ⟨by rfl, fun w _ => ?_⟩) ?_; rotate_left; (go_simp; with_reducible rfl); simp only [Act.put, List.setIfInBounds_toArray, List.set_cons_zero, List.set_cons_succ]
            refine wpAnyK_done (by kernel_rfl) ?_
            go_wp2
            refine ⟨⟨k + 1, by push_cast; rfl, by omega, Lib.hid ⟨by omega, fun j hj h3 => ?_⟩, h.to⟩, ?_⟩
            · rcases Nat.lt_or_ge j k with h4 | h4
              · exact HP.out.bef j hj h4
              · obtain rfl : j = k := by omega
                rw [Hz.out]
                exact Hlt.out
            · simp only [intOf]
              omega
          · have hlf : lessI z x = false := by simpa using hlt
            have hlz := Lib.hid (show lessM z.1 x.1 = false from hlf)
            have Hins0 := insI_at HP.out (fun hh => by rw [Hz.out]; exact hlf)
            rw [dif_pos hkn, Hz.out] at Hins0
            clear hlt hlf
            refine wp_region_K 12 (fun w' => St _ _ w' _) (by kernel_rfl) h.drew ?_; replace h := h.drew
            refine wpAnyK_pure 13 (v := ?_) (i := 0) (fuel := 11) rfl rfl (by kernel_rfl) (by kernel_rfl) (by kernel_rfl) (by decide) (fun _ _ _ h => h) (Or.inl ⟨by rfl, fun w _ => ?_⟩) ?_; rotate_left; (go_simp; with_reducible rfl); simp only [Act.put, List.setIfInBounds_toArray, List.set_cons_zero, List.set_cons_succ]
            refine wpAnyK_pure 14 (v := ?_) (i := 1) (fuel := 10) rfl rfl (by kernel_rfl) (by kernel_rfl) (by kernel_rfl) (by decide) (fun _ _ _ h => h) (Or.inl ⟨by rfl, fun w _ => ?_⟩) ?_; rotate_left; (go_simp; with_reducible rfl); simp only [Act.put, List.setIfInBounds_toArray, List.set_cons_zero, List.set_cons_succ]
            refine wpAnyK_pure 15 (v := ?_) (i := 2) (fuel := 9) rfl rfl (by kernel_rfl) (by kernel_rfl) (by kernel_rfl) (by decide) (fun _ _ _ h => h) (Or.inl ⟨by rfl, fun w _ => ?_⟩) ?_; rotate_left; (go_simp; with_reducible rfl); simp only [Act.put, List.setIfInBounds_toArray, List.set_cons_zero, List.set_cons_succ]
            refine wpAnyK_pure 16 (v := ?_) (i := 3) (fuel := 8) rfl rfl (by kernel_rfl) (by kernel_rfl) (by kernel_rfl) (by decide) (fun _ _ _ h => h) (Or.inl ⟨by rfl, fun w _ => ?_⟩) ?_; rotate_left; (go_simp; with_reducible rfl); simp only [Act.put, List.setIfInBounds_toArray, List.set_cons_zero, List.set_cons_succ]
            refine wpAnyK_pure 17 (v := ?_) (i := 4) (fuel := 7) rfl rfl (by kernel_rfl) (by kernel_rfl) (by kernel_rfl) (by decide) (fun _ _ _ h => h) (Or.inl ⟨by rfl, fun w _ => ?_⟩) ?_; rotate_left; (go_simp; with_reducible rfl); simp only [Act.put, List.setIfInBounds_toArray, List.set_cons_zero, List.set_cons_succ]
            refine wpAnyK_pure 18 (v := ?_) (i := 5) (fuel := 6) rfl rfl (by kernel_rfl) (by kernel_rfl) (by kernel_rfl) (by decide) (fun _ _ _ h => h) (Or.inl ⟨by rfl, fun w _ => ?_⟩) ?_; rotate_left; (go_simp; with_reducible rfl); simp only [Act.put, List.setIfInBounds_toArray, List.set_cons_zero, List.set_cons_succ]
            refine wpAnyK_pure 19 (v := ?_) (i := 6) (fuel := 5) rfl rfl (by kernel_rfl) (by kernel_rfl) (by kernel_rfl) (by decide) (fun _ _ _ h => h) (Or.inl ⟨by rfl, fun w _ => ?_⟩) ?_; rotate_left; (go_simp; with_reducible rfl); simp only [Act.put, List.setIfInBounds_toArray, List.set_cons_zero, List.set_cons_succ]
            refine wpAnyK_pure 20 (v := ?_) (i := 7) (fuel := 4) rfl rfl (by kernel_rfl) (by kernel_rfl) (by kernel_rfl) (by decide) (fun _ _ _ h => h) (Or.inl ⟨by rfl, fun w _ => ?_⟩) ?_; rotate_left; (go_simp; with_reducible rfl); simp only [Act.put, List.setIfInBounds_toArray, List.set_cons_zero, List.set_cons_succ]
            refine wpAnyK_load 21 (i := 8) (fuel := 3) rfl rfl (by kernel_rfl) (by kernel_rfl) (by kernel_rfl) (.inr (by decide)) (by decide) (fun _ _ _ h => h) rfl (fun w h => ex_load_at _ _ rfl bB (oB + k * 32) rfl (u8s z.1) (by rw [u8s_length, z.2]) (hcB (h.sl (some ⟨bB, oB, none⟩) out.length d))) ?_; simp only [Act.put, List.setIfInBounds_toArray, List.set_cons_zero, List.set_cons_succ]
            refine wpAnyK_load 22 (i := 9) (fuel := 2) rfl rfl (by kernel_rfl) (by kernel_rfl) (by kernel_rfl) (.inr (by decide)) (by decide) (fun _ _ _ h => h) rfl (fun w h => ex_loadv h _ _ rfl _ _ rfl) ?_; simp only [Act.put, List.setIfInBounds_toArray, List.set_cons_zero, List.set_cons_succ]
            refine wpAnyK_one (i := 10) (fuel := 1) rfl (by kernel_rfl) rfl (fun K hK => ?_)
            (go_simp; go_wp2_with (go_at_call 62; refine (less_ref (a := z) (b := x)).mono ?_; rw [hlz.out]; rintro e w ⟨rfl, hs⟩; replace h := h.quiet hs; clear hs)); refine hK.out _ _ (fun _ => h.to) ?_; clear hK K
            try simp only [Act.put, List.setIfInBounds_toArray, List.set_cons_zero, List.set_cons_succ]
            refine wpAnyK_pure 24 (v := ?_) (i := 11) (fuel := 0) rfl rfl (by kernel_rfl) (by kernel_rfl) (by kernel_rfl) (by decide) (fun _ _ _ h => h) (Or.inl ⟨by rfl, fun w _ => ?_⟩) ?_; rotate_left; (go_simp; with_reducible rfl); simp only [Act.put, List.setIfInBounds_toArray, List.set_cons_zero, List.set_cons_succ]
            refine wpAnyK_done (by kernel_rfl) ?_
            by_cases hzx : z = x
            · rw [if_pos hzx] at Hins0
              have Hins := Lib.hid Hins0
              have hB : (z.1 == x.1) = true := by rw [hzx]; simp
              clear Hins0 hzx
              go_upto_region 8 with (fail)
              refine wp_region_K 12 (fun w' => St _ _ w' _) (by kernel_rfl) h.drew ?_; replace h := h.drew
              refine wpAnyK_pure 27 (v := ?_) (i := 0) (fuel := 11) rfl rfl (by kernel_rfl) (by kernel_rfl) (by kernel_rfl) (by decide) (fun _ _ _ h => h) (Or.inl ⟨by rfl, fun w _ => ?_⟩) ?_; rotate_left; (go_simp; with_reducible rfl); simp only [Act.put, List.setIfInBounds_toArray, List.set_cons_zero, List.set_cons_succ]
              refine wpAnyK_pure 28 (v := ?_) (i := 1) (fuel := 10) rfl rfl (by kernel_rfl) (by kernel_rfl) (by kernel_rfl) (by decide) (fun _ _ _ h => h) (Or.inl ⟨by rfl, fun w _ => ?_⟩) ?_; rotate_left; (go_simp; with_reducible rfl); simp only [Act.put, List.setIfInBounds_toArray, List.set_cons_zero, List.set_cons_succ]
              refine wpAnyK_pure 29 (v := ?_) (i := 2) (fuel := 9) rfl rfl (by kernel_rfl) (by kernel_rfl) (by kernel_rfl) (by decide) (fun _ _ _ h => h) (Or.inl ⟨by rfl, fun w _ => ?_⟩) ?_; rotate_left; (go_simp; with_reducible rfl); simp only [Act.put, List.setIfInBounds_toArray, List.set_cons_zero, List.set_cons_succ]
              refine wpAnyK_pure 30 (v := ?_) (i := 3) (fuel := 8) rfl rfl (by kernel_rfl) (by kernel_rfl) (by kernel_rfl) (by decide) (fun _ _ _ h => h) (Or.inl ⟨by rfl, fun w _ => ?_⟩) ?_; rotate_left; (go_simp; with_reducible rfl); simp only [Act.put, List.setIfInBounds_toArray, List.set_cons_zero, List.set_cons_succ]
              refine wpAnyK_pure 31 (v := ?_) (i := 4) (fuel := 7) rfl rfl (by kernel_rfl) (by kernel_rfl) (by kernel_rfl) (by decide) (fun _ _ _ h => h) (Or.inl ⟨by rfl, fun w _ => ?_⟩) ?_; rotate_left; (go_simp; with_reducible rfl); simp only [Act.put, List.setIfInBounds_toArray, List.set_cons_zero, List.set_cons_succ]
              refine wpAnyK_pure 32 (v := ?_) (i := 5) (fuel := 6) rfl rfl (by kernel_rfl) (by kernel_rfl) (by kernel_rfl) (by decide) (fun _ _ _ h => h) (Or.inl ⟨by rfl, fun w _ => ?_⟩) ?_; rotate_left; (go_simp; with_reducible rfl); simp only [Act.put, List.setIfInBounds_toArray, List.set_cons_zero, List.set_cons_succ]
              refine wpAnyK_pure 33 (v := ?_) (i := 6) (fuel := 5) rfl rfl (by kernel_rfl) (by kernel_rfl) (by kernel_rfl) (by decide) (fun _ _ _ h => h) (Or.inl ⟨by rfl, fun w _ => ?_⟩) ?_; rotate_left; (go_simp; with_reducible rfl); simp only [Act.put, List.setIfInBounds_toArray, List.set_cons_zero, List.set_cons_succ]
              refine wpAnyK_pure 34 (v := ?_) (i := 7) (fuel := 4) rfl rfl (by kernel_rfl) (by kernel_rfl) (by kernel_rfl) (by decide) (fun _ _ _ h => h) (Or.inl ⟨by rfl, fun w _ => ?_⟩) ?_; rotate_left; (go_simp; with_reducible rfl); simp only [Act.put, List.setIfInBounds_toArray, List.set_cons_zero, List.set_cons_succ]
              refine wpAnyK_load 35 (i := 8) (fuel := 3) rfl rfl (by kernel_rfl) (by kernel_rfl) (by kernel_rfl) (.inr (by decide)) (by decide) (fun _ _ _ h => h) rfl (fun w h => ex_load_at _ _ rfl bB (oB + k * 32) rfl (u8s z.1) (by rw [u8s_length, z.2]) (hcB (h.sl (some ⟨bB, oB, none⟩) out.length d))) ?_; simp only [Act.put, List.setIfInBounds_toArray, List.set_cons_zero, List.set_cons_succ]
              refine wpAnyK_load 36 (i := 9) (fuel := 2) rfl rfl (by kernel_rfl) (by kernel_rfl) (by kernel_rfl) (.inr (by decide)) (by decide) (fun _ _ _ h => h) rfl (fun w h => ex_loadv h _ _ rfl _ _ rfl) ?_; simp only [Act.put, List.setIfInBounds_toArray, List.set_cons_zero, List.set_cons_succ]
              refine wpAnyK_load 37 (i := 10) (fuel := 1) rfl rfl (by kernel_rfl) (by kernel_rfl) (by kernel_rfl) (.inr (by decide)) (by decide) (fun _ _ _ h => h) rfl (fun w h => ex_eq 33 (.tmp 35) (.tmp 36) _ rfl z.1 x.1 rfl rfl z.2 x.2 true hB) ?_; simp only [Act.put, List.setIfInBounds_toArray, List.set_cons_zero, List.set_cons_succ]
              refine wpAnyK_pure 38 (v := ?_) (i := 11) (fuel := 0) rfl rfl (by kernel_rfl) (by kernel_rfl) (by kernel_rfl) (by decide) (fun _ _ _ h => h) (Or.inl ⟨by rfl, fun w _ => ?_⟩) ?_; rotate_left; (go_simp; with_reducible rfl); simp only [Act.put, List.setIfInBounds_toArray, List.set_cons_zero, List.set_cons_succ]
              refine wpAnyK_done (by kernel_rfl) ?_
              go_wp2
              refine ⟨⟨i + 1, some ⟨bB, oB, none⟩, d, out, rfl, by push_cast; rfl, by omega, Lib.hid (by rw [Ht.out, linksM_snoc, ← Ho.out]; exact Hins.out.symm), by omega, h.to⟩, ?_⟩
              simp only [intOf]
              omega
            · rw [if_neg hzx] at Hins0
              have Hins := Lib.hid Hins0
              have hB : (z.1 == x.1) = false := by
                simp only [beq_eq_false_iff_ne, ne_eq]
                exact fun e => hzx (Subtype.ext e)
              clear Hins0 hzx
              go_upto_region 8 with (fail)
              refine wp_region_K 12 (fun w' => St _ _ w' _) (by kernel_rfl) h.drew ?_; replace h := h.drew
              refine wpAnyK_pure 27 (v := ?_) (i := 0) (fuel := 11) rfl rfl (by kernel_rfl) (by kernel_rfl) (by kernel_rfl) (by decide) (fun _ _ _ h => h) (Or.inl ⟨by rfl, fun w _ => ?_⟩) ?_; rotate_left; (go_simp; with_reducible rfl); simp only [Act.put, List.setIfInBounds_toArray, List.set_cons_zero, List.set_cons_succ]
              refine wpAnyK_pure 28 (v := ?_) (i := 1) (fuel := 10) rfl rfl (by kernel_rfl) (by kernel_rfl) (by kernel_rfl) (by decide) (fun _ _ _ h => h) (Or.inl ⟨by rfl, fun w _ => ?_⟩) ?_; rotate_left; (go_simp; with_reducible rfl); simp only [Act.put, List.setIfInBounds_toArray, List.set_cons_zero, List.set_cons_succ]
              refine wpAnyK_pure 29 (v := ?_) (i := 2) (fuel := 9) rfl rfl (by kernel_rfl) (by kernel_rfl) (by kernel_rfl) (by decide) (fun _ _ _ h => h) (Or.inl ⟨by rfl, fun w _ => ?_⟩) ?_; rotate_left; (go_simp; with_reducible rfl); simp only [Act.put, List.setIfInBounds_toArray, List.set_cons_zero, List.set_cons_succ]
              refine wpAnyK_pure 30 (v := ?_) (i := 3) (fuel := 8) rfl rfl (by kernel_rfl) (by kernel_rfl) (by kernel_rfl) (by decide) (fun _ _ _ h => h) (Or.inl ⟨by rfl, fun w _ => ?_⟩) ?_; rotate_left; (go_simp; with_reducible rfl); simp only [Act.put, List.setIfInBounds_toArray, List.set_cons_zero, List.set_cons_succ]
              refine wpAnyK_pure 31 (v := ?_) (i := 4) (fuel := 7) rfl rfl (by kernel_rfl) (by kernel_rfl) (by kernel_rfl) (by decide) (fun _ _ _ h => h) (Or.inl ⟨by rfl, fun w _ => ?_⟩) ?_; rotate_left; (go_simp; with_reducible rfl); simp only [Act.put, List.setIfInBounds_toArray, List.set_cons_zero, List.set_cons_succ]
              refine wpAnyK_pure 32 (v := ?_) (i := 5) (fuel := 6) rfl rfl (by kernel_rfl) (by kernel_rfl) (by kernel_rfl) (by decide) (fun _ _ _ h => h) (Or.inl ⟨by rfl, fun w _ => ?_⟩) ?_; rotate_left; (go_simp; with_reducible rfl); simp only [Act.put, List.setIfInBounds_toArray, List.set_cons_zero, List.set_cons_succ]
              refine wpAnyK_pure 33 (v := ?_) (i := 6) (fuel := 5) rfl rfl (by kernel_rfl) (by kernel_rfl) (by kernel_rfl) (by decide) (fun _ _ _ h => h) (Or.inl ⟨by rfl, fun w _ => ?_⟩) ?_; rotate_left; (go_simp; with_reducible rfl); simp only [Act.put, List.setIfInBounds_toArray, List.set_cons_zero, List.set_cons_succ]
              refine wpAnyK_pure 34 (v := ?_) (i := 7) (fuel := 4) rfl rfl (by kernel_rfl) (by kernel_rfl) (by kernel_rfl) (by decide) (fun _ _ _ h => h) (Or.inl ⟨by rfl, fun w _ => ?_⟩) ?_; rotate_left; (go_simp; with_reducible rfl); simp only [Act.put, List.setIfInBounds_toArray, List.set_cons_zero, List.set_cons_succ]
              refine wpAnyK_load 35 (i := 8) (fuel := 3) rfl rfl (by kernel_rfl) (by kernel_rfl) (by kernel_rfl) (.inr (by decide)) (by decide) (fun _ _ _ h => h) rfl (fun w h => ex_load_at _ _ rfl bB (oB + k * 32) rfl (u8s z.1) (by rw [u8s_length, z.2]) (hcB (h.sl (some ⟨bB, oB, none⟩) out.length d))) ?_; simp only [Act.put, List.setIfInBounds_toArray, List.set_cons_zero, List.set_cons_succ]
              refine wpAnyK_load 36 (i := 9) (fuel := 2) rfl rfl (by kernel_rfl) (by kernel_rfl) (by kernel_rfl) (.inr (by decide)) (by decide) (fun _ _ _ h => h) rfl (fun w h => ex_loadv h _ _ rfl _ _ rfl) ?_; simp only [Act.put, List.setIfInBounds_toArray, List.set_cons_zero, List.set_cons_succ]
              refine wpAnyK_load 37 (i := 10) (fuel := 1) rfl rfl (by kernel_rfl) (by kernel_rfl) (by kernel_rfl) (.inr (by decide)) (by decide) (fun _ _ _ h => h) rfl (fun w h => ex_eq 33 (.tmp 35) (.tmp 36) _ rfl z.1 x.1 rfl rfl z.2 x.2 false hB) ?_; simp only [Act.put, List.setIfInBounds_toArray, List.set_cons_zero, List.set_cons_succ]
              refine wpAnyK_pure 38 (v := ?_) (i := 11) (fuel := 0) rfl rfl (by kernel_rfl) (by kernel_rfl) (by kernel_rfl) (by decide) (fun _ _ _ h => h) (Or.inl ⟨by rfl, fun w _ => ?_⟩) ?_; rotate_left; (go_simp; with_reducible rfl); simp only [Act.put, List.setIfInBounds_toArray, List.set_cons_zero, List.set_cons_succ]
              refine wpAnyK_done (by kernel_rfl) ?_
              have hk9 : k ≤ out.length := by omega
              have hone : ∀ u ∈ out.flatMap idc, u.oneCell' = true := fun u hu => by obtain ⟨z, _, hz⟩ := List.mem_flatMap.1 hu; exact idc_one z u hz
              have Hln := Lib.hid (show k + (1 + (out.length - k)) = out.length + 1 by omega)
              have Hln2 := Lib.hid (show (out.take k ++ x :: out.drop k).length = out.length + 1 by simp only [List.length_append, List.length_take, List.length_cons, List.length_drop]; omega)
              have Hfl := Lib.hid (show (out.flatMap idc).take (k * 32) ++ (u8s x.1 ++ (out.flatMap idc).drop (k * 32)) = (out.take k ++ x :: out.drop k).flatMap idc by rw [flat_take idc_length out k hk9, flat_drop idc_length out k hk9, List.flatMap_append, List.flatMap_cons]; rfl)
              have v1 : (k : Int) ≤ (out.length : Int) := by omega
              have v2 : (out.length : Int) ≤ (d : Int) := by omega
              have v3 : (k : Int) ≤ (d : Int) := by omega
              have v4 : k ≤ d := by omega
              have v5 : ¬ (d : Int) < (k : Int) := by omega
              have v6 : (0 : Int) ≤ (k : Int) := by omega
              have hdk : ¬ d = k := by omega
              have htl : ∀ {w}, Sl w (some ⟨bB, oB, none⟩) out.length d 32 (out.flatMap idc) → Sl w (some ⟨bB, oB + k * 32, none⟩) (out.length - k) (d - k) 32 ((out.flatMap idc).drop (k * 32)) := fun hs => by have := hs.drop hk9; rwa [if_neg hdk, Option.map_some, add_none] at this
              go_upto_region 9 with (fail)
              refine wp_region_K 10 (fun w' => St _ _ w' _) (by kernel_rfl) h.drew ?_; replace h := h.drew
              refine wpAnyK_pure 39 (v := ?_) (i := 0) (fuel := 11) rfl rfl (by kernel_rfl) (by kernel_rfl) (by kernel_rfl) (by decide) (fun _ _ _ h => h) (Or.inl ⟨by rfl, fun w _ => ?_⟩) ?_; rotate_left; (go_simp; with_reducible rfl); simp only [Act.put, List.setIfInBounds_toArray, List.set_cons_zero, List.set_cons_succ]
              refine wpAnyK_pure 40 (v := ?_) (i := 1) (fuel := 10) rfl rfl (by kernel_rfl) (by kernel_rfl) (by kernel_rfl) (by decide) (fun _ _ _ h => h) (Or.inl ⟨by rfl, fun w _ => ?_⟩) ?_; rotate_left; (go_simp; with_reducible rfl); simp only [Act.put, List.setIfInBounds_toArray, List.set_cons_zero, List.set_cons_succ]
              refine wpAnyK_pure 41 (v := ?_) (i := 2) (fuel := 9) rfl rfl (by kernel_rfl) (by kernel_rfl) (by kernel_rfl) (by decide) (fun _ _ _ h => h) (Or.inl ⟨by rfl, fun w _ => ?_⟩) ?_; rotate_left; (go_simp; with_reducible rfl); simp only [Act.put, List.setIfInBounds_toArray, List.set_cons_zero, List.set_cons_succ]
              refine wpAnyK_pure 42 (v := (.slice (some ⟨bB, oB, none⟩) k k)) (i := 3) (fuel := 8) rfl rfl (by kernel_rfl) (by kernel_rfl) (by kernel_rfl) (by decide) (fun _ _ _ h => h) (Or.inl ⟨by rfl, fun w _ => (by go_simp)⟩) ?_; simp only [Act.put, List.setIfInBounds_toArray, List.set_cons_zero, List.set_cons_succ]
              refine wpAnyK_load 43 (i := 4) (fuel := 7) rfl rfl (by kernel_rfl) (by kernel_rfl) (by kernel_rfl) (.inl (by kernel_rfl)) (by decide) (fun _ _ _ h => h) rfl (fun w h => ex_loadv h _ _ rfl _ _ rfl) ?_; simp only [Act.put, List.setIfInBounds_toArray, List.set_cons_zero, List.set_cons_succ]
              refine wpAnyK_pure 45 (v := ?_) (i := 6) (fuel := 6) rfl rfl (by kernel_rfl) (by kernel_rfl) (by kernel_rfl) (by decide) (fun _ _ _ h => h) (Or.inl ⟨by rfl, fun w _ => ?_⟩) ?_; rotate_left; (go_simp; with_reducible rfl); simp only [Act.put, List.setIfInBounds_toArray, List.set_cons_zero, List.set_cons_succ]
              refine wpAnyK_pure 46 (v := ?_) (i := 7) (fuel := 5) rfl rfl (by kernel_rfl) (by kernel_rfl) (by kernel_rfl) (by decide) (fun _ _ _ h => h) (Or.inl ⟨by rfl, fun w _ => ?_⟩) ?_; rotate_left; (go_simp; with_reducible rfl); simp only [Act.put, List.setIfInBounds_toArray, List.set_cons_zero, List.set_cons_succ]
              refine wpAnyK_pure 47 (v := (.slice (some ⟨bB, oB + k * 32, none⟩) (out.length - k) (d - k))) (i := 8) (fuel := 4) rfl rfl (by kernel_rfl) (by kernel_rfl) (by kernel_rfl) (by decide) (fun _ _ _ h => h) (Or.inl ⟨by rfl, fun w _ => (by go_simp)⟩) ?_; simp only [Act.put, List.setIfInBounds_toArray, List.set_cons_zero, List.set_cons_succ]
              refine wpAnyK_one (i := 5) (fuel := 3) rfl (by kernel_rfl) rfl (fun K hK => ?_)
              refine op_runs (some 44) rfl (ex_slice1 h _ _ rfl (u8s x.1) rfl) ?_; clear h; rintro _ w ⟨gy, rfl, h⟩; replace h := h.blkRowK gy 1 32 (by rw [u8s_length, x.2]) (by omega); refine hK.out _ _ (fun _ => h.to) ?_; clear hK K
              try simp only [Act.put, List.setIfInBounds_toArray, List.set_cons_zero, List.set_cons_succ]
              refine wpAnyK_one (i := 9) (fuel := 2) rfl (by kernel_rfl) rfl (fun K hK => ?_)
              refine op_runs (some 48) rfl (ex_append h _ _ _ rfl (some ⟨gy, 0, none⟩) rfl (some ⟨bB, oB + k * 32, none⟩) (out.length - k) (d - k) rfl (htl (h.sl (some ⟨bB, oB, none⟩) out.length d)) (fun u hu => hone u (List.mem_of_mem_drop hu)) (by simp [maxLen]; omega) (by omega)) ?_; clear h; rintro _ w ⟨A2, c2, rfl, h⟩; refine hK.out _ _ (fun _ => h.to) ?_; clear hK K
              try simp only [Act.put, List.setIfInBounds_toArray, List.set_cons_zero, List.set_cons_succ]
              refine wpAnyK_one (i := 10) (fuel := 1) rfl (by kernel_rfl) rfl (fun K hK => ?_)
              refine op_runs (some 49) rfl (ex_append (h.capRow (some ⟨bB, oB, none⟩) k hk9) _ _ _ rfl (some ⟨bB, oB, none⟩) rfl A2 (1 + (out.length - k)) c2 rfl (h.sl A2 (1 + (out.length - k)) c2) (fun u hu => (List.mem_append.1 hu).elim (fun hh => u8s_one _ u hh) (fun hh => hone u (List.mem_of_mem_drop hh))) (by simp [maxLen]; omega) (by omega)) ?_; clear h; rintro _ w ⟨A3, c3, rfl, h⟩; rw [Hfl.out, Hln.out] at h; refine hK.out _ _ (SJ.past (by kernel_rfl)) ?_; clear hK K
              try simp only [Act.put, List.setIfInBounds_toArray, List.set_cons_zero, List.set_cons_succ]
              refine wpAnyK_pure 3 (v := ?_) (i := 11) (fuel := 0) rfl rfl (by kernel_rfl) (by kernel_rfl) (by kernel_rfl) (by decide) (fun _ _ _ h => h) (Or.inl ⟨by rfl, fun w _ => ?_⟩) ?_; rotate_left; (go_simp; with_reducible rfl); simp only [Act.put, List.setIfInBounds_toArray, List.set_cons_zero, List.set_cons_succ]
              refine wpAnyK_done (by kernel_rfl) ?_
              go_wp2
              refine ⟨⟨i + 1, A3, c3, out.take k ++ x :: out.drop k, by rw [Hln2.out]; first | rfl | (rw [hn0]; done) | (rw [← Hln.out]; done), by push_cast; rfl, by omega, Lib.hid (by rw [Ht.out, linksM_snoc, ← Ho.out]; exact Hins.out.symm), by rw [Hln2.out]; omega, ?_⟩, ?_⟩
              · rw [Hln2.out]
                exact h.to
              · simp only [intOf]
                omega
        · have hke : k = out.length := by omega
          have g1 : ¬ (k : Int) < (out.length : Int) := by omega
          have Hins := Lib.hid (show insI out x = out.take k ++ x :: out.drop k by
            rw [insI_at HP.out (fun hh => absurd hh hkn), dif_neg hkn, hke, List.take_length, List.drop_length])
          go_upto_region 6 with (fail)
          refine wp_region_K 12 (fun w' => St _ _ w' _) (by kernel_rfl) h.drew ?_; replace h := h.drew
          refine wpAnyK_pure 13 (v := ?_) (i := 0) (fuel := 11) rfl rfl (by kernel_rfl) (by kernel_rfl) (by kernel_rfl) (by decide) (fun _ _ _ h => h) (Or.inl ⟨by rfl, fun w _ => ?_⟩) ?_; rotate_left; (go_simp; with_reducible rfl); simp only [Act.put, List.setIfInBounds_toArray, List.set_cons_zero, List.set_cons_succ]
          refine wpAnyK_pure 14 (v := ?_) (i := 1) (fuel := 10) rfl rfl (by kernel_rfl) (by kernel_rfl) (by kernel_rfl) (by decide) (fun _ _ _ h => h) (Or.inl ⟨by rfl, fun w _ => ?_⟩) ?_; rotate_left; (go_simp; with_reducible rfl); simp only [Act.put, List.setIfInBounds_toArray, List.set_cons_zero, List.set_cons_succ]
          refine wpAnyK_pure 15 (v := ?_) (i := 2) (fuel := 9) rfl rfl (by kernel_rfl) (by kernel_rfl) (by kernel_rfl) (by decide) (fun _ _ _ h => h) (Or.inl ⟨by rfl, fun w _ => ?_⟩) ?_; rotate_left; (go_simp; with_reducible rfl); simp only [Act.put, List.setIfInBounds_toArray, List.set_cons_zero, List.set_cons_succ]
          refine wpAnyK_pure 16 (v := ?_) (i := 3) (fuel := 8) rfl rfl (by kernel_rfl) (by kernel_rfl) (by kernel_rfl) (by decide) (fun _ _ _ h => h) (Or.inl ⟨by rfl, fun w _ => ?_⟩) ?_; rotate_left; (go_simp; with_reducible rfl); simp only [Act.put, List.setIfInBounds_toArray, List.set_cons_zero, List.set_cons_succ]
          refine wpAnyK_pure 17 (v := ?_) (i := 4) (fuel := 7) rfl rfl (by kernel_rfl) (by kernel_rfl) (by kernel_rfl) (by decide) (fun _ _ _ h => h) (Or.inl ⟨by rfl, fun w _ => ?_⟩) ?_; rotate_left; (go_simp; with_reducible rfl); simp only [Act.put, List.setIfInBounds_toArray, List.set_cons_zero, List.set_cons_succ]
          refine wpAnyK_not 18 (i := 5) (fuel := 6) rfl rfl (by kernel_rfl) (by kernel_rfl) (by kernel_rfl) (by decide) (fun _ _ _ h => h) (by rfl) ?_; simp only [Act.put, List.setIfInBounds_toArray, List.set_cons_zero, List.set_cons_succ]
          refine wpAnyK_not 19 (i := 6) (fuel := 5) rfl rfl (by kernel_rfl) (by kernel_rfl) (by kernel_rfl) (by decide) (fun _ _ _ h => h) (by rfl) ?_; simp only [Act.put, List.setIfInBounds_toArray, List.set_cons_zero, List.set_cons_succ]
          refine wpAnyK_not 20 (i := 7) (fuel := 4) rfl rfl (by kernel_rfl) (by kernel_rfl) (by kernel_rfl) (by decide) (fun _ _ _ h => h) (by rfl) ?_; simp only [Act.put, List.setIfInBounds_toArray, List.set_cons_zero, List.set_cons_succ]
          refine wpAnyK_not 21 (i := 8) (fuel := 3) rfl rfl (by kernel_rfl) (by kernel_rfl) (by kernel_rfl) (by decide) (fun _ _ _ h => h) (by rfl) ?_; simp only [Act.put, List.setIfInBounds_toArray, List.set_cons_zero, List.set_cons_succ]
          refine wpAnyK_not 22 (i := 9) (fuel := 2) rfl rfl (by kernel_rfl) (by kernel_rfl) (by kernel_rfl) (by decide) (fun _ _ _ h => h) (by rfl) ?_; simp only [Act.put, List.setIfInBounds_toArray, List.set_cons_zero, List.set_cons_succ]
          refine wpAnyK_not 23 (i := 10) (fuel := 1) rfl rfl (by kernel_rfl) (by kernel_rfl) (by kernel_rfl) (by decide) (fun _ _ _ h => h) (by rfl) ?_; simp only [Act.put, List.setIfInBounds_toArray, List.set_cons_zero, List.set_cons_succ]
          refine wpAnyK_pure 24 (v := ?_) (i := 11) (fuel := 0) rfl rfl (by kernel_rfl) (by kernel_rfl) (by kernel_rfl) (by decide) (fun _ _ _ h => h) (Or.inl ⟨by rfl, fun w _ => ?_⟩) ?_; rotate_left; (go_simp; with_reducible rfl); simp only [Act.put, List.setIfInBounds_toArray, List.set_cons_zero, List.set_cons_succ]
          refine wpAnyK_done (by kernel_rfl) ?_
          go_upto_region 8 with (fail)
          refine wp_region_K 12 (fun w' => St _ _ w' _) (by kernel_rfl) h.drew ?_; replace h := h.drew
          refine wpAnyK_pure 27 (v := ?_) (i := 0) (fuel := 11) rfl rfl (by kernel_rfl) (by kernel_rfl) (by kernel_rfl) (by decide) (fun _ _ _ h => h) (Or.inl ⟨by rfl, fun w _ => ?_⟩) ?_; rotate_left; (go_simp; with_reducible rfl); simp only [Act.put, List.setIfInBounds_toArray, List.set_cons_zero, List.set_cons_succ]
          refine wpAnyK_pure 28 (v := ?_) (i := 1) (fuel := 10) rfl rfl (by kernel_rfl) (by kernel_rfl) (by kernel_rfl) (by decide) (fun _ _ _ h => h) (Or.inl ⟨by rfl, fun w _ => ?_⟩) ?_; rotate_left; (go_simp; with_reducible rfl); simp only [Act.put, List.setIfInBounds_toArray, List.set_cons_zero, List.set_cons_succ]
          refine wpAnyK_pure 29 (v := ?_) (i := 2) (fuel := 9) rfl rfl (by kernel_rfl) (by kernel_rfl) (by kernel_rfl) (by decide) (fun _ _ _ h => h) (Or.inl ⟨by rfl, fun w _ => ?_⟩) ?_; rotate_left; (go_simp; with_reducible rfl); simp only [Act.put, List.setIfInBounds_toArray, List.set_cons_zero, List.set_cons_succ]
          refine wpAnyK_pure 30 (v := ?_) (i := 3) (fuel := 8) rfl rfl (by kernel_rfl) (by kernel_rfl) (by kernel_rfl) (by decide) (fun _ _ _ h => h) (Or.inl ⟨by rfl, fun w _ => ?_⟩) ?_; rotate_left; (go_simp; with_reducible rfl); simp only [Act.put, List.setIfInBounds_toArray, List.set_cons_zero, List.set_cons_succ]
          refine wpAnyK_pure 31 (v := ?_) (i := 4) (fuel := 7) rfl rfl (by kernel_rfl) (by kernel_rfl) (by kernel_rfl) (by decide) (fun _ _ _ h => h) (Or.inl ⟨by rfl, fun w _ => ?_⟩) ?_; rotate_left; (go_simp; with_reducible rfl); simp only [Act.put, List.setIfInBounds_toArray, List.set_cons_zero, List.set_cons_succ]
          refine wpAnyK_not 32 (i := 5) (fuel := 6) rfl rfl (by kernel_rfl) (by kernel_rfl) (by kernel_rfl) (by decide) (fun _ _ _ h => h) (by rfl) ?_; simp only [Act.put, List.setIfInBounds_toArray, List.set_cons_zero, List.set_cons_succ]
          refine wpAnyK_not 33 (i := 6) (fuel := 5) rfl rfl (by kernel_rfl) (by kernel_rfl) (by kernel_rfl) (by decide) (fun _ _ _ h => h) (by rfl) ?_; simp only [Act.put, List.setIfInBounds_toArray, List.set_cons_zero, List.set_cons_succ]
          refine wpAnyK_not 34 (i := 7) (fuel := 4) rfl rfl (by kernel_rfl) (by kernel_rfl) (by kernel_rfl) (by decide) (fun _ _ _ h => h) (by rfl) ?_; simp only [Act.put, List.setIfInBounds_toArray, List.set_cons_zero, List.set_cons_succ]
          refine wpAnyK_not 35 (i := 8) (fuel := 3) rfl rfl (by kernel_rfl) (by kernel_rfl) (by kernel_rfl) (by decide) (fun _ _ _ h => h) (by rfl) ?_; simp only [Act.put, List.setIfInBounds_toArray, List.set_cons_zero, List.set_cons_succ]
          refine wpAnyK_not 36 (i := 9) (fuel := 2) rfl rfl (by kernel_rfl) (by kernel_rfl) (by kernel_rfl) (by decide) (fun _ _ _ h => h) (by rfl) ?_; simp only [Act.put, List.setIfInBounds_toArray, List.set_cons_zero, List.set_cons_succ]
          refine wpAnyK_not 37 (i := 10) (fuel := 1) rfl rfl (by kernel_rfl) (by kernel_rfl) (by kernel_rfl) (by decide) (fun _ _ _ h => h) (by rfl) ?_; simp only [Act.put, List.setIfInBounds_toArray, List.set_cons_zero, List.set_cons_succ]
          refine wpAnyK_pure 38 (v := ?_) (i := 11) (fuel := 0) rfl rfl (by kernel_rfl) (by kernel_rfl) (by kernel_rfl) (by decide) (fun _ _ _ h => h) (Or.inl ⟨by rfl, fun w _ => ?_⟩) ?_; rotate_left; (go_simp; with_reducible rfl); simp only [Act.put, List.setIfInBounds_toArray, List.set_cons_zero, List.set_cons_succ]
          refine wpAnyK_done (by kernel_rfl) ?_
          have hk9 : k ≤ out.length := by omega
          have hone : ∀ u ∈ out.flatMap idc, u.oneCell' = true := fun u hu => by obtain ⟨z, _, hz⟩ := List.mem_flatMap.1 hu; exact idc_one z u hz
          have Hln := Lib.hid (show k + (1 + (out.length - k)) = out.length + 1 by omega)
          have Hln2 := Lib.hid (show (out.take k ++ x :: out.drop k).length = out.length + 1 by simp only [List.length_append, List.length_take, List.length_cons, List.length_drop]; omega)
          have Hfl := Lib.hid (show (out.flatMap idc).take (k * 32) ++ (u8s x.1 ++ (out.flatMap idc).drop (k * 32)) = (out.take k ++ x :: out.drop k).flatMap idc by rw [flat_take idc_length out k hk9, flat_drop idc_length out k hk9, List.flatMap_append, List.flatMap_cons]; rfl)
          have v1 : (k : Int) ≤ (out.length : Int) := by omega
          have v2 : (out.length : Int) ≤ (d : Int) := by omega
          have v3 : (k : Int) ≤ (d : Int) := by omega
          have v4 : k ≤ d := by omega
          have v5 : ¬ (d : Int) < (k : Int) := by omega
          have v6 : (0 : Int) ≤ (k : Int) := by omega
          have Hke := Lib.hid hke
          clear hke
          cases B with
          | none =>
            have hd0 : d = 0 := by
              rcases (h.row none).2 with ⟨_, _, h3⟩ | ⟨g, o, cur, h3, _⟩
              · exact h3
              · cases h3
            have hn0 : out.length = 0 := by omega
            have hk0 : k = 0 := by have := Hke.out; omega
            have htl : ∀ {w}, Sl w none out.length d 32 (out.flatMap idc) → Sl w none (out.length - k) (d - k) 32 ((out.flatMap idc).drop (k * 32)) := fun hs => by have := hs.drop hk9; rwa [if_pos (by omega)] at this
            go_upto_region 9 with (fail)
            refine wp_region_K 10 (fun w' => St _ _ w' _) (by kernel_rfl) h.drew ?_; replace h := h.drew
            refine wpAnyK_pure 39 (v := ?_) (i := 0) (fuel := 11) rfl rfl (by kernel_rfl) (by kernel_rfl) (by kernel_rfl) (by decide) (fun _ _ _ h => h) (Or.inl ⟨by rfl, fun w _ => ?_⟩) ?_; rotate_left; (go_simp; with_reducible rfl); simp only [Act.put, List.setIfInBounds_toArray, List.set_cons_zero, List.set_cons_succ]
            refine wpAnyK_pure 40 (v := ?_) (i := 1) (fuel := 10) rfl rfl (by kernel_rfl) (by kernel_rfl) (by kernel_rfl) (by decide) (fun _ _ _ h => h) (Or.inl ⟨by rfl, fun w _ => ?_⟩) ?_; rotate_left; (go_simp; with_reducible rfl); simp only [Act.put, List.setIfInBounds_toArray, List.set_cons_zero, List.set_cons_succ]
            refine wpAnyK_pure 41 (v := ?_) (i := 2) (fuel := 9) rfl rfl (by kernel_rfl) (by kernel_rfl) (by kernel_rfl) (by decide) (fun _ _ _ h => h) (Or.inl ⟨by rfl, fun w _ => ?_⟩) ?_; rotate_left; (go_simp; with_reducible rfl); simp only [Act.put, List.setIfInBounds_toArray, List.set_cons_zero, List.set_cons_succ]
            refine wpAnyK_pure 42 (v := (.slice none k k)) (i := 3) (fuel := 8) rfl rfl (by kernel_rfl) (by kernel_rfl) (by kernel_rfl) (by decide) (fun _ _ _ h => h) (Or.inl ⟨by rfl, fun w _ => (by go_simp)⟩) ?_; simp only [Act.put, List.setIfInBounds_toArray, List.set_cons_zero, List.set_cons_succ]
            refine wpAnyK_load 43 (i := 4) (fuel := 7) rfl rfl (by kernel_rfl) (by kernel_rfl) (by kernel_rfl) (.inl (by kernel_rfl)) (by decide) (fun _ _ _ h => h) rfl (fun w h => ex_loadv h _ _ rfl _ _ rfl) ?_; simp only [Act.put, List.setIfInBounds_toArray, List.set_cons_zero, List.set_cons_succ]
            refine wpAnyK_pure 45 (v := ?_) (i := 6) (fuel := 6) rfl rfl (by kernel_rfl) (by kernel_rfl) (by kernel_rfl) (by decide) (fun _ _ _ h => h) (Or.inl ⟨by rfl, fun w _ => ?_⟩) ?_; rotate_left; (go_simp; with_reducible rfl); simp only [Act.put, List.setIfInBounds_toArray, List.set_cons_zero, List.set_cons_succ]
            refine wpAnyK_pure 46 (v := ?_) (i := 7) (fuel := 5) rfl rfl (by kernel_rfl) (by kernel_rfl) (by kernel_rfl) (by decide) (fun _ _ _ h => h) (Or.inl ⟨by rfl, fun w _ => ?_⟩) ?_; rotate_left; (go_simp; with_reducible rfl); simp only [Act.put, List.setIfInBounds_toArray, List.set_cons_zero, List.set_cons_succ]
            refine wpAnyK_pure 47 (v := (.slice none (out.length - k) (d - k))) (i := 8) (fuel := 4) rfl rfl (by kernel_rfl) (by kernel_rfl) (by kernel_rfl) (by decide) (fun _ _ _ h => h) (Or.inl ⟨by rfl, fun w _ => (by go_simp)⟩) ?_; simp only [Act.put, List.setIfInBounds_toArray, List.set_cons_zero, List.set_cons_succ]
            refine wpAnyK_one (i := 5) (fuel := 3) rfl (by kernel_rfl) rfl (fun K hK => ?_)
            refine op_runs (some 44) rfl (ex_slice1 h _ _ rfl (u8s x.1) rfl) ?_; clear h; rintro _ w ⟨gy, rfl, h⟩; replace h := h.blkRowK gy 1 32 (by rw [u8s_length, x.2]) (by omega); refine hK.out _ _ (fun _ => h.to) ?_; clear hK K
            try simp only [Act.put, List.setIfInBounds_toArray, List.set_cons_zero, List.set_cons_succ]
            refine wpAnyK_one (i := 9) (fuel := 2) rfl (by kernel_rfl) rfl (fun K hK => ?_)
            refine op_runs (some 48) rfl (ex_append h _ _ _ rfl (some ⟨gy, 0, none⟩) rfl none (out.length - k) (d - k) rfl (htl (h.sl none out.length d)) (fun u hu => hone u (List.mem_of_mem_drop hu)) (by simp [maxLen]; omega) (by omega)) ?_; clear h; rintro _ w ⟨A2, c2, rfl, h⟩; refine hK.out _ _ (fun _ => h.to) ?_; clear hK K
            try simp only [Act.put, List.setIfInBounds_toArray, List.set_cons_zero, List.set_cons_succ]
            refine wpAnyK_one (i := 10) (fuel := 1) rfl (by kernel_rfl) rfl (fun K hK => ?_)
            refine op_runs (some 49) rfl (ex_append (h.capRow none k hk9) _ _ _ rfl none rfl A2 (1 + (out.length - k)) c2 rfl (h.sl A2 (1 + (out.length - k)) c2) (fun u hu => (List.mem_append.1 hu).elim (fun hh => u8s_one _ u hh) (fun hh => hone u (List.mem_of_mem_drop hh))) (by simp [maxLen]; omega) (by omega)) ?_; clear h; rintro _ w ⟨A3, c3, rfl, h⟩; rw [Hfl.out, Hln.out] at h; refine hK.out _ _ (SJ.past (by kernel_rfl)) ?_; clear hK K
            try simp only [Act.put, List.setIfInBounds_toArray, List.set_cons_zero, List.set_cons_succ]
            refine wpAnyK_pure 3 (v := ?_) (i := 11) (fuel := 0) rfl rfl (by kernel_rfl) (by kernel_rfl) (by kernel_rfl) (by decide) (fun _ _ _ h => h) (Or.inl ⟨by rfl, fun w _ => ?_⟩) ?_; rotate_left; (go_simp; with_reducible rfl); simp only [Act.put, List.setIfInBounds_toArray, List.set_cons_zero, List.set_cons_succ]
            refine wpAnyK_done (by kernel_rfl) ?_
            go_wp2
            refine ⟨⟨i + 1, A3, c3, out.take k ++ x :: out.drop k, by rw [Hln2.out]; first | rfl | (rw [hn0]; done) | (rw [← Hln.out]; done), by push_cast; rfl, by omega, Lib.hid (by rw [Ht.out, linksM_snoc, ← Ho.out]; exact Hins.out.symm), by rw [Hln2.out]; omega, ?_⟩, ?_⟩
            · rw [Hln2.out]
              exact h.to
            · simp only [intOf]
              omega
          | some a =>
            obtain ⟨bB, oB, sB⟩ := a
            obtain ⟨g', o', hA⟩ : ∃ g o, (some ⟨bB, oB, sB⟩ : Option Addr) = some ⟨g, o, none⟩ := by
              rcases (h.row (some ⟨bB, oB, sB⟩)).2 with ⟨h3, _⟩ | ⟨g, o, cur, h3, _⟩
              · cases h3
              · exact ⟨g, o, h3⟩
            obtain rfl : sB = none := by cases hA; rfl
            clear hA
            by_cases hdk : d = k
            · have htl : ∀ {w}, Sl w (some ⟨bB, oB, none⟩) out.length d 32 (out.flatMap idc) → Sl w (some ⟨bB, oB, none⟩) (out.length - k) (d - k) 32 ((out.flatMap idc).drop (k * 32)) := fun hs => by have := hs.drop hk9; rwa [if_pos hdk] at this
              go_upto_region 9 with (fail)
              refine wp_region_K 10 (fun w' => St _ _ w' _) (by kernel_rfl) h.drew ?_; replace h := h.drew
              refine wpAnyK_pure 39 (v := ?_) (i := 0) (fuel := 11) rfl rfl (by kernel_rfl) (by kernel_rfl) (by kernel_rfl) (by decide) (fun _ _ _ h => h) (Or.inl ⟨by rfl, fun w _ => ?_⟩) ?_; rotate_left; (go_simp; with_reducible rfl); simp only [Act.put, List.setIfInBounds_toArray, List.set_cons_zero, List.set_cons_succ]
              refine wpAnyK_pure 40 (v := ?_) (i := 1) (fuel := 10) rfl rfl (by kernel_rfl) (by kernel_rfl) (by kernel_rfl) (by decide) (fun _ _ _ h => h) (Or.inl ⟨by rfl, fun w _ => ?_⟩) ?_; rotate_left; (go_simp; with_reducible rfl); simp only [Act.put, List.setIfInBounds_toArray, List.set_cons_zero, List.set_cons_succ]
              refine wpAnyK_pure 41 (v := ?_) (i := 2) (fuel := 9) rfl rfl (by kernel_rfl) (by kernel_rfl) (by kernel_rfl) (by decide) (fun _ _ _ h => h) (Or.inl ⟨by rfl, fun w _ => ?_⟩) ?_; rotate_left; (go_simp; with_reducible rfl); simp only [Act.put, List.setIfInBounds_toArray, List.set_cons_zero, List.set_cons_succ]
              refine wpAnyK_pure 42 (v := (.slice (some ⟨bB, oB, none⟩) k k)) (i := 3) (fuel := 8) rfl rfl (by kernel_rfl) (by kernel_rfl) (by kernel_rfl) (by decide) (fun _ _ _ h => h) (Or.inl ⟨by rfl, fun w _ => (by go_simp)⟩) ?_; simp only [Act.put, List.setIfInBounds_toArray, List.set_cons_zero, List.set_cons_succ]
              refine wpAnyK_load 43 (i := 4) (fuel := 7) rfl rfl (by kernel_rfl) (by kernel_rfl) (by kernel_rfl) (.inl (by kernel_rfl)) (by decide) (fun _ _ _ h => h) rfl (fun w h => ex_loadv h _ _ rfl _ _ rfl) ?_; simp only [Act.put, List.setIfInBounds_toArray, List.set_cons_zero, List.set_cons_succ]
              refine wpAnyK_pure 45 (v := ?_) (i := 6) (fuel := 6) rfl rfl (by kernel_rfl) (by kernel_rfl) (by kernel_rfl) (by decide) (fun _ _ _ h => h) (Or.inl ⟨by rfl, fun w _ => ?_⟩) ?_; rotate_left; (go_simp; with_reducible rfl); simp only [Act.put, List.setIfInBounds_toArray, List.set_cons_zero, List.set_cons_succ]
              refine wpAnyK_pure 46 (v := ?_) (i := 7) (fuel := 5) rfl rfl (by kernel_rfl) (by kernel_rfl) (by kernel_rfl) (by decide) (fun _ _ _ h => h) (Or.inl ⟨by rfl, fun w _ => ?_⟩) ?_; rotate_left; (go_simp; with_reducible rfl); simp only [Act.put, List.setIfInBounds_toArray, List.set_cons_zero, List.set_cons_succ]
              refine wpAnyK_pure 47 (v := (.slice (some ⟨bB, oB, none⟩) (out.length - k) (d - k))) (i := 8) (fuel := 4) rfl rfl (by kernel_rfl) (by kernel_rfl) (by kernel_rfl) (by decide) (fun _ _ _ h => h) (Or.inl ⟨by rfl, fun w _ => (by go_simp)⟩) ?_; simp only [Act.put, List.setIfInBounds_toArray, List.set_cons_zero, List.set_cons_succ]
              refine wpAnyK_one (i := 5) (fuel := 3) rfl (by kernel_rfl) rfl (fun K hK => ?_)
              refine op_runs (some 44) rfl (ex_slice1 h _ _ rfl (u8s x.1) rfl) ?_; clear h; rintro _ w ⟨gy, rfl, h⟩; replace h := h.blkRowK gy 1 32 (by rw [u8s_length, x.2]) (by omega); refine hK.out _ _ (fun _ => h.to) ?_; clear hK K
              try simp only [Act.put, List.setIfInBounds_toArray, List.set_cons_zero, List.set_cons_succ]
              refine wpAnyK_one (i := 9) (fuel := 2) rfl (by kernel_rfl) rfl (fun K hK => ?_)
              refine op_runs (some 48) rfl (ex_append h _ _ _ rfl (some ⟨gy, 0, none⟩) rfl (some ⟨bB, oB, none⟩) (out.length - k) (d - k) rfl (htl (h.sl (some ⟨bB, oB, none⟩) out.length d)) (fun u hu => hone u (List.mem_of_mem_drop hu)) (by simp [maxLen]; omega) (by omega)) ?_; clear h; rintro _ w ⟨A2, c2, rfl, h⟩; refine hK.out _ _ (fun _ => h.to) ?_; clear hK K
              try simp only [Act.put, List.setIfInBounds_toArray, List.set_cons_zero, List.set_cons_succ]
              refine wpAnyK_one (i := 10) (fuel := 1) rfl (by kernel_rfl) rfl (fun K hK => ?_)
              refine op_runs (some 49) rfl (ex_append (h.capRow (some ⟨bB, oB, none⟩) k hk9) _ _ _ rfl (some ⟨bB, oB, none⟩) rfl A2 (1 + (out.length - k)) c2 rfl (h.sl A2 (1 + (out.length - k)) c2) (fun u hu => (List.mem_append.1 hu).elim (fun hh => u8s_one _ u hh) (fun hh => hone u (List.mem_of_mem_drop hh))) (by simp [maxLen]; omega) (by omega)) ?_; clear h; rintro _ w ⟨A3, c3, rfl, h⟩; rw [Hfl.out, Hln.out] at h; refine hK.out _ _ (SJ.past (by kernel_rfl)) ?_; clear hK K
              try simp only [Act.put, List.setIfInBounds_toArray, List.set_cons_zero, List.set_cons_succ]
              refine wpAnyK_pure 3 (v := ?_) (i := 11) (fuel := 0) rfl rfl (by kernel_rfl) (by kernel_rfl) (by kernel_rfl) (by decide) (fun _ _ _ h => h) (Or.inl ⟨by rfl, fun w _ => ?_⟩) ?_; rotate_left; (go_simp; with_reducible rfl); simp only [Act.put, List.setIfInBounds_toArray, List.set_cons_zero, List.set_cons_succ]
              refine wpAnyK_done (by kernel_rfl) ?_
              go_wp2
              refine ⟨⟨i + 1, A3, c3, out.take k ++ x :: out.drop k, by rw [Hln2.out]; first | rfl | (rw [hn0]; done) | (rw [← Hln.out]; done), by push_cast; rfl, by omega, Lib.hid (by rw [Ht.out, linksM_snoc, ← Ho.out]; exact Hins.out.symm), by rw [Hln2.out]; omega, ?_⟩, ?_⟩
              · rw [Hln2.out]
                exact h.to
              · simp only [intOf]
                omega
            · have htl : ∀ {w}, Sl w (some ⟨bB, oB, none⟩) out.length d 32 (out.flatMap idc) → Sl w (some ⟨bB, oB + k * 32, none⟩) (out.length - k) (d - k) 32 ((out.flatMap idc).drop (k * 32)) := fun hs => by have := hs.drop hk9; rwa [if_neg hdk, Option.map_some, add_none] at this
              go_upto_region 9 with (fail)
              refine wp_region_K 10 (fun w' => St _ _ w' _) (by kernel_rfl) h.drew ?_; replace h := h.drew
              refine wpAnyK_pure 39 (v := ?_) (i := 0) (fuel := 11) rfl rfl (by kernel_rfl) (by kernel_rfl) (by kernel_rfl) (by decide) (fun _ _ _ h => h) (Or.inl ⟨by rfl, fun w _ => ?_⟩) ?_; rotate_left; (go_simp; with_reducible rfl); simp only [Act.put, List.setIfInBounds_toArray, List.set_cons_zero, List.set_cons_succ]
              refine wpAnyK_pure 40 (v := ?_) (i := 1) (fuel := 10) rfl rfl (by kernel_rfl) (by kernel_rfl) (by kernel_rfl) (by decide) (fun _ _ _ h => h) (Or.inl ⟨by rfl, fun w _ => ?_⟩) ?_; rotate_left; (go_simp; with_reducible rfl); simp only [Act.put, List.setIfInBounds_toArray, List.set_cons_zero, List.set_cons_succ]
              refine wpAnyK_pure 41 (v := ?_) (i := 2) (fuel := 9) rfl rfl (by kernel_rfl) (by kernel_rfl) (by kernel_rfl) (by decide) (fun _ _ _ h => h) (Or.inl ⟨by rfl, fun w _ => ?_⟩) ?_; rotate_left; (go_simp; with_reducible rfl); simp only [Act.put, List.setIfInBounds_toArray, List.set_cons_zero, List.set_cons_succ]
              refine wpAnyK_pure 42 (v := (.slice (some ⟨bB, oB, none⟩) k k)) (i := 3) (fuel := 8) rfl rfl (by kernel_rfl) (by kernel_rfl) (by kernel_rfl) (by decide) (fun _ _ _ h => h) (Or.inl ⟨by rfl, fun w _ => (by go_simp)⟩) ?_; simp only [Act.put, List.setIfInBounds_toArray, List.set_cons_zero, List.set_cons_succ]
              refine wpAnyK_load 43 (i := 4) (fuel := 7) rfl rfl (by kernel_rfl) (by kernel_rfl) (by kernel_rfl) (.inl (by kernel_rfl)) (by decide) (fun _ _ _ h => h) rfl (fun w h => ex_loadv h _ _ rfl _ _ rfl) ?_; simp only [Act.put, List.setIfInBounds_toArray, List.set_cons_zero, List.set_cons_succ]
              refine wpAnyK_pure 45 (v := ?_) (i := 6) (fuel := 6) rfl rfl (by kernel_rfl) (by kernel_rfl) (by kernel_rfl) (by decide) (fun _ _ _ h => h) (Or.inl ⟨by rfl, fun w _ => ?_⟩) ?_; rotate_left; (go_simp; with_reducible rfl); simp only [Act.put, List.setIfInBounds_toArray, List.set_cons_zero, List.set_cons_succ]
              refine wpAnyK_pure 46 (v := ?_) (i := 7) (fuel := 5) rfl rfl (by kernel_rfl) (by kernel_rfl) (by kernel_rfl) (by decide) (fun _ _ _ h => h) (Or.inl ⟨by rfl, fun w _ => ?_⟩) ?_; rotate_left; (go_simp; with_reducible rfl); simp only [Act.put, List.setIfInBounds_toArray, List.set_cons_zero, List.set_cons_succ]
              refine wpAnyK_pure 47 (v := (.slice (some ⟨bB, oB + k * 32, none⟩) (out.length - k) (d - k))) (i := 8) (fuel := 4) rfl rfl (by kernel_rfl) (by kernel_rfl) (by kernel_rfl) (by decide) (fun _ _ _ h => h) (Or.inl ⟨by rfl, fun w _ => (by go_simp)⟩) ?_; simp only [Act.put, List.setIfInBounds_toArray, List.set_cons_zero, List.set_cons_succ]
              refine wpAnyK_one (i := 5) (fuel := 3) rfl (by kernel_rfl) rfl (fun K hK => ?_)
              refine op_runs (some 44) rfl (ex_slice1 h _ _ rfl (u8s x.1) rfl) ?_; clear h; rintro _ w ⟨gy, rfl, h⟩; replace h := h.blkRowK gy 1 32 (by rw [u8s_length, x.2]) (by omega); refine hK.out _ _ (fun _ => h.to) ?_; clear hK K
              try simp only [Act.put, List.setIfInBounds_toArray, List.set_cons_zero, List.set_cons_succ]
              refine wpAnyK_one (i := 9) (fuel := 2) rfl (by kernel_rfl) rfl (fun K hK => ?_)
              refine op_runs (some 48) rfl (ex_append h _ _ _ rfl (some ⟨gy, 0, none⟩) rfl (some ⟨bB, oB + k * 32, none⟩) (out.length - k) (d - k) rfl (htl (h.sl (some ⟨bB, oB, none⟩) out.length d)) (fun u hu => hone u (List.mem_of_mem_drop hu)) (by simp [maxLen]; omega) (by omega)) ?_; clear h; rintro _ w ⟨A2, c2, rfl, h⟩; refine hK.out _ _ (fun _ => h.to) ?_; clear hK K
              try simp only [Act.put, List.setIfInBounds_toArray, List.set_cons_zero, List.set_cons_succ]
              refine wpAnyK_one (i := 10) (fuel := 1) rfl (by kernel_rfl) rfl (fun K hK => ?_)
              refine op_runs (some 49) rfl (ex_append (h.capRow (some ⟨bB, oB, none⟩) k hk9) _ _ _ rfl (some ⟨bB, oB, none⟩) rfl A2 (1 + (out.length - k)) c2 rfl (h.sl A2 (1 + (out.length - k)) c2) (fun u hu => (List.mem_append.1 hu).elim (fun hh => u8s_one _ u hh) (fun hh => hone u (List.mem_of_mem_drop hh))) (by simp [maxLen]; omega) (by omega)) ?_; clear h; rintro _ w ⟨A3, c3, rfl, h⟩; rw [Hfl.out, Hln.out] at h; refine hK.out _ _ (SJ.past (by kernel_rfl)) ?_; clear hK K
              try simp only [Act.put, List.setIfInBounds_toArray, List.set_cons_zero, List.set_cons_succ]
              refine wpAnyK_pure 3 (v := ?_) (i := 11) (fuel := 0) rfl rfl (by kernel_rfl) (by kernel_rfl) (by kernel_rfl) (by decide) (fun _ _ _ h => h) (Or.inl ⟨by rfl, fun w _ => ?_⟩) ?_; rotate_left; (go_simp; with_reducible rfl); simp only [Act.put, List.setIfInBounds_toArray, List.set_cons_zero, List.set_cons_succ]
              refine wpAnyK_done (by kernel_rfl) ?_
              go_wp2
              refine ⟨⟨i + 1, A3, c3, out.take k ++ x :: out.drop k, by rw [Hln2.out]; first | rfl | (rw [hn0]; done) | (rw [← Hln.out]; done), by push_cast; rfl, by omega, Lib.hid (by rw [Ht.out, linksM_snoc, ← Ho.out]; exact Hins.out.symm), by rw [Hln2.out]; omega, ?_⟩, ?_⟩
              · rw [Hln2.out]
                exact h.to
              · simp only [intOf]
                omega
    · have hin : i = l.length := by omega
      subst hin
      have ho := Ho.out
      rw [List.take_length] at ho
      go_wp2
      go_ret
      subst ho
      exact ⟨B, d, rfl, h⟩
end Go.Proofs.Ytionnlckjjojnaa
