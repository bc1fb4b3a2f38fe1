/- Chapter 3's example. -/
import Derived.Test.YtjmjdffnakojpaaMacSum
namespace Go.Proofs.Ytjmjdffnakojpaa
open Go.RowKit
set_option linter.unusedVariables false
set_option linter.unusedSimpArgs false

theorem hi_mac : ((macM (List.replicate 20 11) ([72, 105, 32] ++ [84, 104, 101, 114, 101])).getD 0 0, (macM (List.replicate 20 11) ([72, 105, 32] ++ [84, 104, 101, 114, 101])).getD 1 0, (macM (List.replicate 20 11) ([72, 105, 32] ++ [84, 104, 101, 114, 101])).getD 31 0) = (0xb0, 0x34, 0xf7) := by decide +kernel
/-- So many filled. -/
def fillM (x : UInt8) (n i : Nat) : List UInt8 := List.replicate i x ++ zeros (n - i)
theorem fillM_set (x : UInt8) {n i : Nat} (h : i < n) : (fillM x n i).set i x = fillM x n (i + 1) := by
  rw [fillM, List.set_append_right _ _ (by simp), List.length_replicate, Nat.sub_self, show n - i = (n - (i + 1)) + 1 by omega, zeros, List.replicate_succ, List.set_cons_zero, fillM, List.replicate_succ', List.append_assoc]
  rfl
set_option maxRecDepth 100000 in
set_option maxHeartbeats 1000000 in
theorem mac_awake {S : Nat → Prop} {w0 w : World} {L : List Ent} (h : St S w0 w L) : Calls Try.prog 24 #[] w fun e w' => e = .returned (.bool true) ∧ St S w0 w' L := by
  have hz8 : (Try.prog.info? 5).map (·.zero) = some (some (.int .u8 0)) := by kernel_rfl
  have hmk : ∀ z, (Try.prog.info? 5).map (·.zero) = some (some z) → (madeCells z.cells (20 * 1)).toList = u8s (fillM 11 20 0) := fun z hz => by
    rw [hz8] at hz
    injection hz with hz
    injection hz with hz
    subst hz
    exact made_u8 20
  have Hmk := Lib.hid hmk
  have h3 := hi_mac
  simp only [Prod.mk.injEq] at h3
  obtain ⟨h0, h1, h31⟩ := h3
  have hlen := macM_length (List.replicate 20 11) ([72, 105, 32] ++ [84, 104, 101, 114, 101])
  generalize hM : macM (List.replicate 20 11) ([72, 105, 32] ++ [84, 104, 101, 114, 101]) = M at *
  have g : ∀ i, i < 32 → (u8s M)[i]? = some (.int .u8 ((M.getD i 0).toNat : Int)) := fun i hi => by
    rw [u8s_get M i (by omega), List.getD_eq_getElem?_getD, List.getElem?_eq_getElem (by omega)]
    rfl
  have g0 := g 0 (by omega)
  have g1 := g 1 (by omega)
  have g31 := g 31 (by omega)
  rw [h0] at g0
  rw [h1] at g1
  rw [h31] at g31
  replace g0 : (u8s M)[0]? = some (.int .u8 176) := g0
  replace g1 : (u8s M)[1]? = some (.int .u8 52) := g1
  replace g31 : (u8s M)[31]? = some (.int .u8 247) := g31
  have hrow : Row (u8s M) 32 := Row.mk' (by rw [u8s_length, hlen]) (u8s_one _) (by omega)
  have H0 := Lib.hid g0
  have H1 := Lib.hid g1
  have H31 := Lib.hid g31
  have HM := Lib.hid hM
  clear hmk hz8 h0 h1 h31 hlen hM g g0 g1 g31
  go_enter Try.func24, Try.ntmps24
  go_wp2_with (first
    | (refine wl_runs rfl (ex_make h _ _ _ rfl 20 rfl rfl (by decide) (by decide) (u8s (fillM 11 20 0)) Hmk.out) ?_; clear h; rintro _ w ⟨g, rfl, h⟩)
    | (refine wl_reads rfl (ex_load1 h _ _ rfl _ _ rfl) ?_) | (refine wl_reads rfl (ex_load h _ _ rfl _ _ rfl) ?_) | (refine wl_runs rfl (ex_store1i h _ _ _ rfl _ _ rfl _ _ rfl) ?_; clear h; rintro _ w ⟨rfl, h⟩; try dsimp only [Act.put]) | (refine wl_runs rfl (ex_store1s h _ _ _ rfl _ _ rfl _ _ _ rfl) ?_; clear h; rintro _ w ⟨rfl, h⟩; try dsimp only [Act.put]) | (refine wl_runs rfl (ex_store1b h _ _ _ rfl _ _ rfl _ rfl) ?_; clear h; rintro _ w ⟨rfl, h⟩; try dsimp only [Act.put]) | (refine wl_runs rfl (ex_store1t h _ _ _ rfl _ _ rfl _ rfl) ?_; clear h; rintro _ w ⟨rfl, h⟩; try dsimp only [Act.put]) | (refine wl_runs rfl (ex_store1p h _ _ _ rfl _ _ rfl _ rfl) ?_; clear h; rintro _ w ⟨rfl, h⟩; try dsimp only [Act.put]) | (refine wl_runs rfl (ex_store1m h _ _ _ rfl _ _ rfl _ rfl) ?_; clear h; rintro _ w ⟨rfl, h⟩; try dsimp only [Act.put]) | (refine wl_runs rfl (ex_store h _ _ _ rfl _ _ rfl _ rfl) ?_; clear h; rintro _ w ⟨rfl, h⟩; try dsimp only [Act.put]) | (refine wl_runs rfl (ex_alloc h _ rfl) ?_; clear h; rintro _ w ⟨g, rfl, h⟩) | (refine wl_runs rfl (ex_box h _ _ rfl _ rfl) ?_; clear h; rintro _ w ⟨g, rfl, h⟩) | (refine wl_runs rfl (ex_box1i h _ _ rfl _ _ rfl) ?_; clear h; rintro _ w ⟨g, rfl, h⟩) | (refine wl_runs rfl (ex_box1s h _ _ rfl _ _ _ rfl) ?_; clear h; rintro _ w ⟨g, rfl, h⟩) | (refine wl_runs rfl (ex_box1b h _ _ rfl _ rfl) ?_; clear h; rintro _ w ⟨g, rfl, h⟩) | (refine wl_runs rfl (ex_box1t h _ _ rfl _ rfl) ?_; clear h; rintro _ w ⟨g, rfl, h⟩) | (refine wl_runs rfl (ex_box1p h _ _ rfl _ rfl) ?_; clear h; rintro _ w ⟨g, rfl, h⟩) | (refine wl_runs rfl (ex_box1m h _ _ rfl _ rfl) ?_; clear h; rintro _ w ⟨g, rfl, h⟩) | (refine wl_runs rfl (ex_slice1 h _ _ rfl _ rfl) ?_; clear h; rintro _ w ⟨g, rfl, h⟩) | (refine wl_runs rfl (ex_slice1i h _ _ rfl _ _ rfl) ?_; clear h; rintro _ w ⟨g, rfl, h⟩) | (refine wl_runs rfl (ex_slice1s h _ _ rfl _ _ _ rfl) ?_; clear h; rintro _ w ⟨g, rfl, h⟩) | (refine wl_runs rfl (ex_slice1b h _ _ rfl _ rfl) ?_; clear h; rintro _ w ⟨g, rfl, h⟩) | (refine wl_runs rfl (ex_slice1t h _ _ rfl _ rfl) ?_; clear h; rintro _ w ⟨g, rfl, h⟩) | (refine wl_runs rfl (ex_slice1p h _ _ rfl _ rfl) ?_; clear h; rintro _ w ⟨g, rfl, h⟩) | (refine wl_runs rfl (ex_slice1m h _ _ rfl _ rfl) ?_; clear h; rintro _ w ⟨g, rfl, h⟩) | (refine wl_reads rfl (ex_lit0 _ rfl) ?_))
  go_loopw [7] (fun x wr => ∃ i : Nat, x = .int .i64 (i : Int) ∧ i ≤ 20 ∧ St S w0 wr (eOwn 5 1 (some ⟨g, 0, none⟩) 20 20 (u8s (fillM 11 20 i)) :: L)) (fun x _ => 20 - (intOf x).toNat)
  case atStart => exact ⟨0, rfl, by omega, h⟩
  case round =>
    clear h
    obtain ⟨i, rfl, hi, h⟩ := hrel
    by_cases hii : i < 20
    · have f1 : (i : Int) < 20 := by omega
      go_wp2_with (first
        | (refine wl_runs rfl (ex_store_row h _ _ _ rfl g 0 i (by rw [Nat.zero_add]; rfl) (.int .u8 11) rfl hii) ?_; clear h; rintro _ w ⟨rfl, h⟩; try dsimp only [Act.put]))
      have hst : (u8s (fillM 11 20 i)).set i (.int .u8 11) = u8s (fillM 11 20 (i + 1)) := by
        rw [← fillM_set 11 hii]
        exact u8s_setl (fillM 11 20 i) i 11
      rw [hst] at h
      exact ⟨⟨i + 1, by go_num, by omega, h⟩, by simp only [intOf]; omega⟩
    · have : i = 20 := by omega
      subst this
      have hf : fillM 11 20 20 = List.replicate 20 11 := by simp [fillM, zeros]
      rw [hf] at h
      clear hf
      have t1 := True.intro
      have t2 := True.intro
      have t3 := True.intro
      go_wp2_with (first
        | (clear t1; refine wl_runs rfl (ex_sliceN h _ 3 _ rfl [(.int .u8 72, [.int .u8 72]), (.int .u8 105, [.int .u8 105]), (.int .u8 32, [.int .u8 32])] rfl rfl (by simp [Value.cells]) (by decide) (by decide)) ?_; clear h; rintro _ w ⟨ga, rfl, h⟩; replace h : St S w0 w (eBlk ga 5 (u8s [72, 105, 32]) :: _) := h)
        | (clear t2; refine wl_runs rfl (ex_conv h _ _ rfl Try.underlying5 ga 3 rfl rfl (by decide)) ?_; clear h; rintro _ w ⟨rfl, h⟩)
        | (clear t3; refine wl_runs rfl (ex_sliceN h _ 5 _ rfl [(.int .u8 84, [.int .u8 84]), (.int .u8 104, [.int .u8 104]), (.int .u8 101, [.int .u8 101]), (.int .u8 114, [.int .u8 114]), (.int .u8 101, [.int .u8 101])] rfl rfl (by simp [Value.cells]) (by decide) (by decide)) ?_; clear h; rintro _ w ⟨gb, rfl, h⟩; replace h : St S w0 w (eBlk gb 5 (u8s [84, 104, 101, 114, 101]) :: _) := h)
        | (refine wl_runs rfl (ex_conv h _ _ rfl Try.underlying5 gb 5 rfl rfl (by decide)) ?_; clear h; rintro _ w ⟨rfl, h⟩)
        | (refine wl_runs rfl (ex_sliceN h _ 2 _ rfl [(.slice (some ⟨ga, 0, none⟩) 3 3, [.slice (some ⟨ga, 0, none⟩) 3 3]), (.slice (some ⟨gb, 0, none⟩) 5 5, [.slice (some ⟨gb, 0, none⟩) 5 5])] rfl rfl (by simp [Value.cells]) (by decide) (by decide)) ?_; clear h; rintro _ w ⟨gq, rfl, h⟩; replace h : St S w0 w (eBlk gq 22 [.slice (some ⟨ga, 0, none⟩) 3 3, .slice (some ⟨gb, 0, none⟩) 5 5] :: _) := h)
        | (go_at_call 25; refine (mac_code h (by decide) (by decide) (by simp)).mono ?_; clear h; rintro e w ⟨rfl, h⟩; rw [show macM (List.replicate 20 11) (([⟨some ⟨ga, 0, none⟩, 3, 3, [72, 105, 32]⟩, ⟨some ⟨gb, 0, none⟩, 5, 5, [84, 104, 101, 114, 101]⟩] : List RowAt).flatMap (·.l)) = M from HM.out])
        | (refine wl_runs rfl (ex_alloc h 25 rfl) ?_; clear h; rintro _ w ⟨gt, rfl, h⟩)
        | (refine wl_reads rfl (ex_load1_at _ _ rfl gt 0 rfl (.int .u8 176) (h.cellAt gt 0 H0.out)) ?_)
        | (refine wl_reads rfl (ex_load1_at _ _ rfl gt 1 rfl (.int .u8 52) (h.cellAt gt 1 H1.out)) ?_)
        | (refine wl_reads rfl (ex_load1_at _ _ rfl gt 31 rfl (.int .u8 247) (h.cellAt gt 31 H31.out)) ?_)
        | (refine wl_reads rfl (ex_load1 h _ _ rfl _ _ rfl) ?_) | (refine wl_reads rfl (ex_load h _ _ rfl _ _ rfl) ?_) | (refine wl_runs rfl (ex_store1i h _ _ _ rfl _ _ rfl _ _ rfl) ?_; clear h; rintro _ w ⟨rfl, h⟩; try dsimp only [Act.put]) | (refine wl_runs rfl (ex_store1s h _ _ _ rfl _ _ rfl _ _ _ rfl) ?_; clear h; rintro _ w ⟨rfl, h⟩; try dsimp only [Act.put]) | (refine wl_runs rfl (ex_store1b h _ _ _ rfl _ _ rfl _ rfl) ?_; clear h; rintro _ w ⟨rfl, h⟩; try dsimp only [Act.put]) | (refine wl_runs rfl (ex_store1t h _ _ _ rfl _ _ rfl _ rfl) ?_; clear h; rintro _ w ⟨rfl, h⟩; try dsimp only [Act.put]) | (refine wl_runs rfl (ex_store1p h _ _ _ rfl _ _ rfl _ rfl) ?_; clear h; rintro _ w ⟨rfl, h⟩; try dsimp only [Act.put]) | (refine wl_runs rfl (ex_store1m h _ _ _ rfl _ _ rfl _ rfl) ?_; clear h; rintro _ w ⟨rfl, h⟩; try dsimp only [Act.put]) | (refine wl_runs rfl (ex_store h _ _ _ rfl _ _ rfl _ rfl) ?_; clear h; rintro _ w ⟨rfl, h⟩; try dsimp only [Act.put]) | (refine wl_runs rfl (ex_alloc h _ rfl) ?_; clear h; rintro _ w ⟨g, rfl, h⟩) | (refine wl_runs rfl (ex_box h _ _ rfl _ rfl) ?_; clear h; rintro _ w ⟨g, rfl, h⟩) | (refine wl_runs rfl (ex_box1i h _ _ rfl _ _ rfl) ?_; clear h; rintro _ w ⟨g, rfl, h⟩) | (refine wl_runs rfl (ex_box1s h _ _ rfl _ _ _ rfl) ?_; clear h; rintro _ w ⟨g, rfl, h⟩) | (refine wl_runs rfl (ex_box1b h _ _ rfl _ rfl) ?_; clear h; rintro _ w ⟨g, rfl, h⟩) | (refine wl_runs rfl (ex_box1t h _ _ rfl _ rfl) ?_; clear h; rintro _ w ⟨g, rfl, h⟩) | (refine wl_runs rfl (ex_box1p h _ _ rfl _ rfl) ?_; clear h; rintro _ w ⟨g, rfl, h⟩) | (refine wl_runs rfl (ex_box1m h _ _ rfl _ rfl) ?_; clear h; rintro _ w ⟨g, rfl, h⟩) | (refine wl_runs rfl (ex_slice1 h _ _ rfl _ rfl) ?_; clear h; rintro _ w ⟨g, rfl, h⟩) | (refine wl_runs rfl (ex_slice1i h _ _ rfl _ _ rfl) ?_; clear h; rintro _ w ⟨g, rfl, h⟩) | (refine wl_runs rfl (ex_slice1s h _ _ rfl _ _ _ rfl) ?_; clear h; rintro _ w ⟨g, rfl, h⟩) | (refine wl_runs rfl (ex_slice1b h _ _ rfl _ rfl) ?_; clear h; rintro _ w ⟨g, rfl, h⟩) | (refine wl_runs rfl (ex_slice1t h _ _ rfl _ rfl) ?_; clear h; rintro _ w ⟨g, rfl, h⟩) | (refine wl_runs rfl (ex_slice1p h _ _ rfl _ rfl) ?_; clear h; rintro _ w ⟨g, rfl, h⟩) | (refine wl_runs rfl (ex_slice1m h _ _ rfl _ rfl) ?_; clear h; rintro _ w ⟨g, rfl, h⟩) | (refine wl_reads rfl (ex_lit0 _ rfl) ?_))
      go_ret
      exact ⟨rfl, h.to⟩
end Go.Proofs.Ytjmjdffnakojpaa
