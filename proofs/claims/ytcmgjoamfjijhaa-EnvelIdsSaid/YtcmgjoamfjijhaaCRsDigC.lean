/- The reference's digest, part C. -/
import Derived.Test.YtcmgjoamfjijhaaCRsDigest
import Derived.Test.YtcmgjoamfjijhaaCRefSum
namespace Go.Proofs.Ytcmgjoamfjijhaa
open Go.RowKit Go.Maps
set_option linter.unusedVariables false
set_option linter.unusedSimpArgs false
set_option maxRecDepth 100000 in
set_option maxHeartbeats 4000000 in
theorem rs_digest_c {S : Nat → Prop} {w0 w : World} {L F : List Ent} {g : Nat} {k : RsAt} {s : RSu} {A : Option Addr} {n c : Nat} {b : List UInt8} (h : St S w0 w L) [sl : SlotV L g k s F] [ka : HasSl F A n c 1 (u8s b)] (hn : n ≤ 100000) (hr0 : s.rows.length ≤ 1000000) (hok : RsOk s.pr) (hm0 : s.mode ≠ 0) :
    Calls Try.prog 52 #[.pointer (some ⟨g, 0, none⟩), .slice A n c] w fun e w' => e = .returned (.tuple #[.agg (u8s (rdigestM b s.pr).1).toArray, .int .i64 ((rdigestM b s.pr).2.1 : Int)]) ∧ ∃ k' s', s'.pr = (rdigestM b s.pr).2.2 ∧ St S w0 w' (eRs g k' s' :: F) := by
  replace h := h.rsOpen g
  have h00 : St S w0 w (eSl none 0 0 1 (u8s []) :: RSP g k s F) := (h.nilRow 5 1).release none (by omega)
  replace h : St S w0 w (RSP g k s (eSl none 0 0 1 (u8s []) :: F)) := h00.to
  clear h00
  have hrk : Row (u8s zk.1) 32 := Row.u32 zk
  have hM : rdigestM b s.pr = if (ridealM 2 zk [] b 32 s.pr).2.1 = 0 then rcloseM (ridealM 2 zk [] b 32 s.pr).1 b (ridealM 2 zk [] b 32 s.pr).2.2 else (zeros 32, (ridealM 2 zk [] b 32 s.pr).2) := by unfold rdigestM; exact if_neg hm0
  have hl := ridealM_32 (q := 2) (k := zk) (lab := []) (inp := b) hok (.inr rfl)
  obtain ⟨x, e0, p1, hi⟩ : ∃ x e0 p1, ridealM 2 zk [] b 32 s.pr = (x, e0, p1) := ⟨_, _, _, rfl⟩
  have hcall := fun (Sx : Nat → Prop) (wx wy : World) (Fx : List Ent) (kq : HasSl Fx A n c 1 (u8s b)) (kl : HasSl Fx none 0 0 1 (u8s [])) (hx : St Sx wx wy (eRs g k s :: Fx)) => rs_ideal (g := g) (A := none) (n := 0) (c := 0) (lab := []) (B := A) (m := n) (d := c) (inp := b) hx 2 (by omega) zk 32 (by omega) hr0 (by omega) (by omega)
  rw [hi] at hl hcall hM
  have Hc := Lib.hid hcall
  simp only at hl hM
  have f1 : ((s.mode : Int) == 0) = false := by simp; omega
  have hz : Row (u8s (zeros 32)) 32 := hrk
  clear hi hcall hm0
  rw [hM]
  clear hM
  by_cases he : e0 = 0
  · rw [if_pos he]
    subst he
    have hxl := hl rfl
    obtain ⟨d, hd⟩ : ∃ d : Id, d.1 = x := ⟨⟨x, hxl⟩, rfl⟩
    subst hd
    clear hxl hl
    have Hdl := Lib.hid d.2
    have hr := Row.u32 d
    obtain ⟨RR, hRR⟩ : ∃ RR, rcloseM d.1 b p1 = RR := ⟨_, rfl⟩
    have HR := Lib.hid hRR
    rw [hRR]
    clear hRR
    have hat : ∀ (b0 off c : Nat) W', (Instr.arrayAt 49 (.slice (some ⟨b0, off, none⟩) 32 c)).run Try.prog W' = .ok (.pointer (some ⟨b0, off, none⟩)) W' := fun b0 off c W' => run_arrayAt _ _ _ 32 _ _ _ Try.underlying49 (Nat.le_refl _)
    go_enter Try.func52, Try.ntmps52
    go_wp2_with (first
      | (refine wl_at 4 rfl ?_; refine wl_runs rfl (ex_alloc h 49 rfl) ?_; clear h; rintro _ w ⟨g4, rfl, h⟩) | (refine wl_at 6 rfl ?_; refine wl_runs rfl (ex_alloc h 49 rfl) ?_; clear h; rintro _ w ⟨g6, rfl, h⟩) | (go_at_call 78; replace h : St S w0 w (RSP g k s (eBlk g6 49 (u8s (zeros 32)) :: eBlk g4 49 (u8s (zeros 32)) :: eSl none 0 0 1 (u8s []) :: F)) := h.to; replace h := h.rsShut; refine (Hc.out _ _ _ _ inferInstance inferInstance h).mono ?_; clear h; simp only [Hdl.out]; rintro e w ⟨A1, c9, k1, s1, rfl, hs1, h⟩; obtain ⟨b1, off1, rfl, hbl, hcs⟩ := (h.sl A1 32 c9).pos (by omega); replace h := h.rsOpen g)
      | (refine wl_reads rfl (ex_load_at _ _ rfl b1 off1 rfl (u8s d.1) (by rw [u8s_length, d.2]) hcs) ?_)
      | (refine wl_none rfl ?_; refine wl_runs rfl (ex_store h _ _ _ rfl _ _ rfl _ rfl) ?_; clear h; rintro _ w ⟨rfl, h⟩; try dsimp only [Act.put]) | (refine wl_reads rfl (ex_lit0 _ rfl) ?_) | (refine wl_reads rfl (ex_loadv h _ _ rfl _ _ rfl) ?_))
    have HM : Hid (RR = rcloseM d.1 b s1.pr) := Lib.hid (by rw [hs1]; exact HR.out.symm)
    clear hs1 HR
    obtain ⟨tA, tc, rA, rc, a1, n1, c1, a2, n2, c2, cl⟩ := k1
    obtain ⟨mode, tape, R⟩ := s1
    replace h : St S w0 w (RSP g ⟨tA, tc, rA, rc, a1, n1, c1, a2, n2, c2, cl⟩ ⟨mode, tape, R⟩ (eBlk g4 49 (u8s (zeros 32)) :: eBlk g6 49 (u8s d.1) :: F)) := h.to
    go_loopw [63] (fun x wr => ∃ j : Nat, x = .int .i64 (j : Int) ∧ j ≤ R.length ∧ Hid (NoCl R d.1 b j) ∧ St S w0 wr (RSP g ⟨tA, tc, rA, rc, a1, n1, c1, a2, n2, c2, cl⟩ ⟨mode, tape, R⟩ (eBlk g4 49 (u8s (zeros 32)) :: eBlk g6 49 (u8s d.1) :: F))) (fun x _ => R.length - (intOf x).toNat)
    case atStart => exact ⟨0, rfl, by omega, Lib.hid (fun x hx => by simp at hx), h⟩
    case round =>
      clear h
      obtain ⟨j, rfl, hj, Hno, h⟩ := hrel
      by_cases hlt : j < R.length
      · have f1 : (j : Int) < (R.length : Int) := by omega
        obtain ⟨b0, off, rfl, hcel⟩ := (h.sl rA R.length rc).elem (f := rrc) rrc_length hlt (by omega)
        have hcap : rc ≤ 9223372036854775807 := by have := (h.sl (some ⟨b0, off, none⟩) R.length rc).cap; simpa [maxLen] using this
        have hle9 := (h.sl (some ⟨b0, off, none⟩) R.length rc).le
        have hmem : R[j] ∈ R := List.getElem_mem hlt
        have hyes := fun e => rclose_yes (D := d.1) (b := b) (s := ⟨mode, tape, R⟩) hmem e
        have hnot := fun e => NoCl.succ Hno.out hlt e
        obtain ⟨x, hx⟩ : ∃ x, R[j] = x := ⟨_, rfl⟩
        rw [hx] at hyes hnot hcel hmem
        have h2 := h.poolGet (R.flatMap rrp) (s := ⟨x.oA, x.out.length, x.oc, 1, u8s x.out⟩) (List.mem_flatMap.2 ⟨x, hmem, by simp [rrp]⟩)
        have h3 := h2.poolGet (R.flatMap rrp) (s := ⟨x.iA, x.inp.length, x.ic, 1, u8s x.inp⟩) (List.mem_flatMap.2 ⟨x, hmem, by simp [rrp]⟩)
        simp only at h3
        replace h := h3
        have hxl := rrc_length x
        obtain ⟨xk, xkey, xl, xi, xo, xlA, xlc, xiA, xic, xoA, xoc⟩ := x
        simp only [clh] at hyes hnot
        unfold rrc at hcel hxl
        simp only at hcel hxl h
        have hrx := Row.u32 xkey
        have Hyes := Lib.hid hyes
        have Hnot := Lib.hid hnot
        clear hyes hnot h2 h3 hx hmem
        have hx36 : (c_tabulariumref07_row (.int .i64 (xk.1 : Int)) (u8s xkey.1) (.slice xlA xl.length xlc) (.slice xiA xi.length xic) (.slice xoA xo.length xoc)).length = 36 := hxl
        go_wp2_with (first
          | (refine wl_at 66 rfl ?_; refine wl_reads rfl (ex_load_at _ _ rfl b0 (off + j * 36) rfl _ hx36 hcel) ?_)
          | (refine wl_at 12 rfl ?_; refine wl_runs rfl (ex_alloc h 92 rfl) ?_; clear h; rintro _ w ⟨g12, rfl, h⟩)
          | (refine wl_none rfl ?_; refine wl_runs rfl (ex_store h _ _ _ rfl g12 0 rfl _ rfl) ?_; clear h; rintro _ w ⟨rfl, h⟩; try dsimp only [Act.put]))
        by_cases e1 : xk.1 = 2
        · have d1 : ((xk.1 : Int) == 2) = true := by simp; omega
          by_cases e2 : xo = d.1
          · have d2 : ((str xo).toList == (str d.1).toList) = true := by simp [e2]
            by_cases e3 : xi = b
            · have d3 : ((str xi).toList != (str b).toList) = false := by simp [e3]
              have d4 : ((str xi).toList == (str b).toList) = true := by simp [e3]
              have Hn := Lib.hid (Hnot.out (decide_eq_false fun hh => hh.2.2 e3))
              clear Hyes Hnot e1 e2 e3 hxl
              refine wp_region_K 19 (fun w' => St _ _ w' _) (by kernel_rfl) h.drew ?_; replace h := h.drew
              refine wpAnyK_pure 67 (v := ?_) (i := 0) (fuel := 18) rfl rfl (by kernel_rfl) (by kernel_rfl) (by kernel_rfl) (by decide) (fun _ _ _ h => h) (Or.inl ⟨by rfl, fun w _ => ?_⟩) ?_; rotate_left; (go_simp; with_reducible rfl); simp only [Act.put, List.setIfInBounds_toArray, List.set_cons_zero, List.set_cons_succ]
              refine wpAnyK_load 68 (i := 1) (fuel := 17) rfl rfl (by kernel_rfl) (by kernel_rfl) (by kernel_rfl) (.inr (by decide)) (by decide) (fun _ _ _ h => h) rfl (fun w h => ex_loadv h _ _ rfl _ _ rfl) ?_; simp only [Act.put, List.setIfInBounds_toArray, List.set_cons_zero, List.set_cons_succ]
              refine wpAnyK_pure 69 (v := ?_) (i := 2) (fuel := 16) rfl rfl (by kernel_rfl) (by kernel_rfl) (by kernel_rfl) (by decide) (fun _ _ _ h => h) (Or.inl ⟨by rfl, fun w _ => ?_⟩) ?_; rotate_left; (go_simp; with_reducible rfl); simp only [Act.put, List.setIfInBounds_toArray, List.set_cons_zero, List.set_cons_succ]
              refine wpAnyK_pure 70 (v := ?_) (i := 3) (fuel := 15) rfl rfl (by kernel_rfl) (by kernel_rfl) (by kernel_rfl) (by decide) (fun _ _ _ h => h) (Or.inl ⟨by rfl, fun w _ => ?_⟩) ?_; rotate_left; (go_simp; with_reducible rfl); simp only [Act.put, List.setIfInBounds_toArray, List.set_cons_zero, List.set_cons_succ]
              refine wpAnyK_pure 71 (v := ?_) (i := 4) (fuel := 14) rfl rfl (by kernel_rfl) (by kernel_rfl) (by kernel_rfl) (by decide) (fun _ _ _ h => h) (Or.inl ⟨by rfl, fun w _ => ?_⟩) ?_; rotate_left; (go_simp; with_reducible rfl); simp only [Act.put, List.setIfInBounds_toArray, List.set_cons_zero, List.set_cons_succ]
              refine wpAnyK_load 72 (i := 5) (fuel := 13) rfl rfl (by kernel_rfl) (by kernel_rfl) (by kernel_rfl) (.inr (by decide)) (by decide) (fun _ _ _ h => h) rfl (fun w h => ex_loadv h _ _ rfl _ _ rfl) ?_; simp only [Act.put, List.setIfInBounds_toArray, List.set_cons_zero, List.set_cons_succ]
              refine wpAnyK_load 73 (i := 6) (fuel := 12) rfl rfl (by kernel_rfl) (by kernel_rfl) (by kernel_rfl) (.inr (by decide)) (by decide) (fun _ _ _ h => h) rfl (fun w h => ex_string _ _ _ rfl Try.underlying5 Try.underlying9 xoA xo.length xoc rfl (h.sl xoA xo.length xoc)) ?_; simp only [Act.put, List.setIfInBounds_toArray, List.set_cons_zero, List.set_cons_succ]
              refine wpAnyK_pure 74 (v := ?_) (i := 7) (fuel := 11) rfl rfl (by kernel_rfl) (by kernel_rfl) (by kernel_rfl) (by decide) (fun _ _ _ h => h) (Or.inl ⟨by rfl, fun w _ => ?_⟩) ?_; rotate_left; (go_simp; with_reducible rfl); simp only [Act.put, List.setIfInBounds_toArray, List.set_cons_zero, List.set_cons_succ]
              refine wpAnyK_load 75 (i := 8) (fuel := 10) rfl rfl (by kernel_rfl) (by kernel_rfl) (by kernel_rfl) (.inr (by decide)) (by decide) (fun _ _ _ h => h) rfl (fun w h => ex_string _ _ _ rfl Try.underlying5 Try.underlying9 (some ⟨g6, 0, none⟩) 32 32 rfl (h.sl (some ⟨g6, 0, none⟩) 32 32)) ?_; simp only [Act.put, List.setIfInBounds_toArray, List.set_cons_zero, List.set_cons_succ]
              refine wpAnyK_pure 76 (v := ?_) (i := 9) (fuel := 9) rfl rfl (by kernel_rfl) (by kernel_rfl) (by kernel_rfl) (by decide) (fun _ _ _ h => h) (Or.inl ⟨by rfl, fun w _ => ?_⟩) ?_; rotate_left; (go_simp; with_reducible rfl); simp only [Act.put, List.setIfInBounds_toArray, List.set_cons_zero, List.set_cons_succ]
              refine wpAnyK_pure 77 (v := ?_) (i := 10) (fuel := 8) rfl rfl (by kernel_rfl) (by kernel_rfl) (by kernel_rfl) (by decide) (fun _ _ _ h => h) (Or.inl ⟨by rfl, fun w _ => ?_⟩) ?_; rotate_left; (go_simp; with_reducible rfl); simp only [Act.put, List.setIfInBounds_toArray, List.set_cons_zero, List.set_cons_succ]
              refine wpAnyK_pure 78 (v := ?_) (i := 11) (fuel := 7) rfl rfl (by kernel_rfl) (by kernel_rfl) (by kernel_rfl) (by decide) (fun _ _ _ h => h) (Or.inl ⟨by rfl, fun w _ => ?_⟩) ?_; rotate_left; (go_simp; with_reducible rfl); simp only [Act.put, List.setIfInBounds_toArray, List.set_cons_zero, List.set_cons_succ]
              refine wpAnyK_pure 79 (v := ?_) (i := 12) (fuel := 6) rfl rfl (by kernel_rfl) (by kernel_rfl) (by kernel_rfl) (by decide) (fun _ _ _ h => h) (Or.inl ⟨by rfl, fun w _ => ?_⟩) ?_; rotate_left; (go_simp; with_reducible rfl); simp only [Act.put, List.setIfInBounds_toArray, List.set_cons_zero, List.set_cons_succ]
              refine wpAnyK_load 80 (i := 13) (fuel := 5) rfl rfl (by kernel_rfl) (by kernel_rfl) (by kernel_rfl) (.inr (by decide)) (by decide) (fun _ _ _ h => h) rfl (fun w h => ex_loadv h _ _ rfl _ _ rfl) ?_; simp only [Act.put, List.setIfInBounds_toArray, List.set_cons_zero, List.set_cons_succ]
              refine wpAnyK_load 81 (i := 14) (fuel := 4) rfl rfl (by kernel_rfl) (by kernel_rfl) (by kernel_rfl) (.inr (by decide)) (by decide) (fun _ _ _ h => h) rfl (fun w h => ex_string _ _ _ rfl Try.underlying5 Try.underlying9 xiA xi.length xic rfl (h.sl xiA xi.length xic)) ?_; simp only [Act.put, List.setIfInBounds_toArray, List.set_cons_zero, List.set_cons_succ]
              refine wpAnyK_pure 82 (v := ?_) (i := 15) (fuel := 3) rfl rfl (by kernel_rfl) (by kernel_rfl) (by kernel_rfl) (by decide) (fun _ _ _ h => h) (Or.inl ⟨by rfl, fun w _ => ?_⟩) ?_; rotate_left; (go_simp; with_reducible rfl); simp only [Act.put, List.setIfInBounds_toArray, List.set_cons_zero, List.set_cons_succ]
              refine wpAnyK_load 83 (i := 16) (fuel := 2) rfl rfl (by kernel_rfl) (by kernel_rfl) (by kernel_rfl) (.inr (by decide)) (by decide) (fun _ _ _ h => h) rfl (fun w h => ex_string _ _ _ rfl Try.underlying5 Try.underlying9 A n c rfl (h.sl A n c)) ?_; simp only [Act.put, List.setIfInBounds_toArray, List.set_cons_zero, List.set_cons_succ]
              refine wpAnyK_pure 84 (v := ?_) (i := 17) (fuel := 1) rfl rfl (by kernel_rfl) (by kernel_rfl) (by kernel_rfl) (by decide) (fun _ _ _ h => h) (Or.inl ⟨by rfl, fun w _ => ?_⟩) ?_; rotate_left; (go_simp; with_reducible rfl); simp only [Act.put, List.setIfInBounds_toArray, List.set_cons_zero, List.set_cons_succ]
              refine wpAnyK_pure 85 (v := ?_) (i := 18) (fuel := 0) rfl rfl (by kernel_rfl) (by kernel_rfl) (by kernel_rfl) (by decide) (fun _ _ _ h => h) (Or.inl ⟨by rfl, fun w _ => ?_⟩) ?_; rotate_left; (go_simp; with_reducible rfl); simp only [Act.put, List.setIfInBounds_toArray, List.set_cons_zero, List.set_cons_succ]
              refine wpAnyK_done (by kernel_rfl) ?_
              go_wp2_with (first | (refine wl_reads rfl (ex_loadv h _ _ rfl _ _ rfl) ?_))
              go_roundw
              case rel => exact ⟨j + 1, by go_num, by omega, Hn, h.to⟩
              case measure => simp [intOf]; omega
            · have d3 : ((str xi).toList != (str b).toList) = true := by rw [str_toList, str_toList]; simpa using e3
              have d4 : ((str xi).toList == (str b).toList) = false := by rw [str_toList, str_toList]; simpa using e3
              have Hy := Lib.hid (Hyes.out (decide_eq_true ⟨e1, e2, e3⟩))
              clear Hyes Hnot e1 e2 e3 hxl
              refine wp_region_K 19 (fun w' => St _ _ w' _) (by kernel_rfl) h.drew ?_; replace h := h.drew
              refine wpAnyK_pure 67 (v := ?_) (i := 0) (fuel := 18) rfl rfl (by kernel_rfl) (by kernel_rfl) (by kernel_rfl) (by decide) (fun _ _ _ h => h) (Or.inl ⟨by rfl, fun w _ => ?_⟩) ?_; rotate_left; (go_simp; with_reducible rfl); simp only [Act.put, List.setIfInBounds_toArray, List.set_cons_zero, List.set_cons_succ]
              refine wpAnyK_load 68 (i := 1) (fuel := 17) rfl rfl (by kernel_rfl) (by kernel_rfl) (by kernel_rfl) (.inr (by decide)) (by decide) (fun _ _ _ h => h) rfl (fun w h => ex_loadv h _ _ rfl _ _ rfl) ?_; simp only [Act.put, List.setIfInBounds_toArray, List.set_cons_zero, List.set_cons_succ]
              refine wpAnyK_pure 69 (v := ?_) (i := 2) (fuel := 16) rfl rfl (by kernel_rfl) (by kernel_rfl) (by kernel_rfl) (by decide) (fun _ _ _ h => h) (Or.inl ⟨by rfl, fun w _ => ?_⟩) ?_; rotate_left; (go_simp; with_reducible rfl); simp only [Act.put, List.setIfInBounds_toArray, List.set_cons_zero, List.set_cons_succ]
              refine wpAnyK_pure 70 (v := ?_) (i := 3) (fuel := 15) rfl rfl (by kernel_rfl) (by kernel_rfl) (by kernel_rfl) (by decide) (fun _ _ _ h => h) (Or.inl ⟨by rfl, fun w _ => ?_⟩) ?_; rotate_left; (go_simp; with_reducible rfl); simp only [Act.put, List.setIfInBounds_toArray, List.set_cons_zero, List.set_cons_succ]
              refine wpAnyK_pure 71 (v := ?_) (i := 4) (fuel := 14) rfl rfl (by kernel_rfl) (by kernel_rfl) (by kernel_rfl) (by decide) (fun _ _ _ h => h) (Or.inl ⟨by rfl, fun w _ => ?_⟩) ?_; rotate_left; (go_simp; with_reducible rfl); simp only [Act.put, List.setIfInBounds_toArray, List.set_cons_zero, List.set_cons_succ]
              refine wpAnyK_load 72 (i := 5) (fuel := 13) rfl rfl (by kernel_rfl) (by kernel_rfl) (by kernel_rfl) (.inr (by decide)) (by decide) (fun _ _ _ h => h) rfl (fun w h => ex_loadv h _ _ rfl _ _ rfl) ?_; simp only [Act.put, List.setIfInBounds_toArray, List.set_cons_zero, List.set_cons_succ]
              refine wpAnyK_load 73 (i := 6) (fuel := 12) rfl rfl (by kernel_rfl) (by kernel_rfl) (by kernel_rfl) (.inr (by decide)) (by decide) (fun _ _ _ h => h) rfl (fun w h => ex_string _ _ _ rfl Try.underlying5 Try.underlying9 xoA xo.length xoc rfl (h.sl xoA xo.length xoc)) ?_; simp only [Act.put, List.setIfInBounds_toArray, List.set_cons_zero, List.set_cons_succ]
              refine wpAnyK_pure 74 (v := ?_) (i := 7) (fuel := 11) rfl rfl (by kernel_rfl) (by kernel_rfl) (by kernel_rfl) (by decide) (fun _ _ _ h => h) (Or.inl ⟨by rfl, fun w _ => ?_⟩) ?_; rotate_left; (go_simp; with_reducible rfl); simp only [Act.put, List.setIfInBounds_toArray, List.set_cons_zero, List.set_cons_succ]
              refine wpAnyK_load 75 (i := 8) (fuel := 10) rfl rfl (by kernel_rfl) (by kernel_rfl) (by kernel_rfl) (.inr (by decide)) (by decide) (fun _ _ _ h => h) rfl (fun w h => ex_string _ _ _ rfl Try.underlying5 Try.underlying9 (some ⟨g6, 0, none⟩) 32 32 rfl (h.sl (some ⟨g6, 0, none⟩) 32 32)) ?_; simp only [Act.put, List.setIfInBounds_toArray, List.set_cons_zero, List.set_cons_succ]
              refine wpAnyK_pure 76 (v := ?_) (i := 9) (fuel := 9) rfl rfl (by kernel_rfl) (by kernel_rfl) (by kernel_rfl) (by decide) (fun _ _ _ h => h) (Or.inl ⟨by rfl, fun w _ => ?_⟩) ?_; rotate_left; (go_simp; with_reducible rfl); simp only [Act.put, List.setIfInBounds_toArray, List.set_cons_zero, List.set_cons_succ]
              refine wpAnyK_pure 77 (v := ?_) (i := 10) (fuel := 8) rfl rfl (by kernel_rfl) (by kernel_rfl) (by kernel_rfl) (by decide) (fun _ _ _ h => h) (Or.inl ⟨by rfl, fun w _ => ?_⟩) ?_; rotate_left; (go_simp; with_reducible rfl); simp only [Act.put, List.setIfInBounds_toArray, List.set_cons_zero, List.set_cons_succ]
              refine wpAnyK_pure 78 (v := ?_) (i := 11) (fuel := 7) rfl rfl (by kernel_rfl) (by kernel_rfl) (by kernel_rfl) (by decide) (fun _ _ _ h => h) (Or.inl ⟨by rfl, fun w _ => ?_⟩) ?_; rotate_left; (go_simp; with_reducible rfl); simp only [Act.put, List.setIfInBounds_toArray, List.set_cons_zero, List.set_cons_succ]
              refine wpAnyK_pure 79 (v := ?_) (i := 12) (fuel := 6) rfl rfl (by kernel_rfl) (by kernel_rfl) (by kernel_rfl) (by decide) (fun _ _ _ h => h) (Or.inl ⟨by rfl, fun w _ => ?_⟩) ?_; rotate_left; (go_simp; with_reducible rfl); simp only [Act.put, List.setIfInBounds_toArray, List.set_cons_zero, List.set_cons_succ]
              refine wpAnyK_load 80 (i := 13) (fuel := 5) rfl rfl (by kernel_rfl) (by kernel_rfl) (by kernel_rfl) (.inr (by decide)) (by decide) (fun _ _ _ h => h) rfl (fun w h => ex_loadv h _ _ rfl _ _ rfl) ?_; simp only [Act.put, List.setIfInBounds_toArray, List.set_cons_zero, List.set_cons_succ]
              refine wpAnyK_load 81 (i := 14) (fuel := 4) rfl rfl (by kernel_rfl) (by kernel_rfl) (by kernel_rfl) (.inr (by decide)) (by decide) (fun _ _ _ h => h) rfl (fun w h => ex_string _ _ _ rfl Try.underlying5 Try.underlying9 xiA xi.length xic rfl (h.sl xiA xi.length xic)) ?_; simp only [Act.put, List.setIfInBounds_toArray, List.set_cons_zero, List.set_cons_succ]
              refine wpAnyK_pure 82 (v := ?_) (i := 15) (fuel := 3) rfl rfl (by kernel_rfl) (by kernel_rfl) (by kernel_rfl) (by decide) (fun _ _ _ h => h) (Or.inl ⟨by rfl, fun w _ => ?_⟩) ?_; rotate_left; (go_simp; with_reducible rfl); simp only [Act.put, List.setIfInBounds_toArray, List.set_cons_zero, List.set_cons_succ]
              refine wpAnyK_load 83 (i := 16) (fuel := 2) rfl rfl (by kernel_rfl) (by kernel_rfl) (by kernel_rfl) (.inr (by decide)) (by decide) (fun _ _ _ h => h) rfl (fun w h => ex_string _ _ _ rfl Try.underlying5 Try.underlying9 A n c rfl (h.sl A n c)) ?_; simp only [Act.put, List.setIfInBounds_toArray, List.set_cons_zero, List.set_cons_succ]
              refine wpAnyK_pure 84 (v := ?_) (i := 17) (fuel := 1) rfl rfl (by kernel_rfl) (by kernel_rfl) (by kernel_rfl) (by decide) (fun _ _ _ h => h) (Or.inl ⟨by rfl, fun w _ => ?_⟩) ?_; rotate_left; (go_simp; with_reducible rfl); simp only [Act.put, List.setIfInBounds_toArray, List.set_cons_zero, List.set_cons_succ]
              refine wpAnyK_pure 85 (v := ?_) (i := 18) (fuel := 0) rfl rfl (by kernel_rfl) (by kernel_rfl) (by kernel_rfl) (by decide) (fun _ _ _ h => h) (Or.inl ⟨by rfl, fun w _ => ?_⟩) ?_; rotate_left; (go_simp; with_reducible rfl); simp only [Act.put, List.setIfInBounds_toArray, List.set_cons_zero, List.set_cons_succ]
              refine wpAnyK_done (by kernel_rfl) ?_
              cases cl
              · go_wp2_with (first | (refine wl_reads rfl (ex_loadv h _ _ rfl _ _ rfl) ?_))
                refine wp_region_K 9 (fun w' => St _ _ w' _) (by kernel_rfl) h.drew ?_; replace h := h.drew
                refine wpAnyK_pure 91 (v := ?_) (i := 0) (fuel := 15) rfl rfl (by kernel_rfl) (by kernel_rfl) (by kernel_rfl) (by decide) (fun _ _ _ h => h) (Or.inl ⟨by rfl, fun w _ => ?_⟩) ?_; rotate_left; (go_simp; with_reducible rfl); simp only [Act.put, List.setIfInBounds_toArray, List.set_cons_zero, List.set_cons_succ]
                refine wpAnyK_pure 92 (v := ?_) (i := 1) (fuel := 14) rfl rfl (by kernel_rfl) (by kernel_rfl) (by kernel_rfl) (by decide) (fun _ _ _ h => h) (Or.inl ⟨by rfl, fun w _ => ?_⟩) ?_; rotate_left; (go_simp; with_reducible rfl); simp only [Act.put, List.setIfInBounds_toArray, List.set_cons_zero, List.set_cons_succ]
                refine wpAnyK_pure 93 (v := ?_) (i := 2) (fuel := 13) rfl rfl (by kernel_rfl) (by kernel_rfl) (by kernel_rfl) (by decide) (fun _ _ _ h => h) (Or.inl ⟨by rfl, fun w _ => ?_⟩) ?_; rotate_left; (go_simp; with_reducible rfl); simp only [Act.put, List.setIfInBounds_toArray, List.set_cons_zero, List.set_cons_succ]
                refine wpAnyK_pure 94 (v := ?_) (i := 3) (fuel := 12) rfl rfl (by kernel_rfl) (by kernel_rfl) (by kernel_rfl) (by decide) (fun _ _ _ h => h) (Or.inl ⟨by rfl, fun w _ => ?_⟩) ?_; rotate_left; (go_simp; with_reducible rfl); simp only [Act.put, List.setIfInBounds_toArray, List.set_cons_zero, List.set_cons_succ]
                refine wpAnyK_load 95 (i := 4) (fuel := 11) rfl rfl (by kernel_rfl) (by kernel_rfl) (by kernel_rfl) (.inl (by kernel_rfl)) (by decide) (fun _ _ _ h => h) rfl (fun w h => ex_loadv h _ _ rfl _ _ rfl) ?_; simp only [Act.put, List.setIfInBounds_toArray, List.set_cons_zero, List.set_cons_succ]
                refine wpAnyK_pure 96 (v := ?_) (i := 5) (fuel := 10) rfl rfl (by kernel_rfl) (by kernel_rfl) (by kernel_rfl) (by decide) (fun _ _ _ h => h) (Or.inl ⟨by rfl, fun w _ => ?_⟩) ?_; rotate_left; (go_simp; with_reducible rfl); simp only [Act.put, List.setIfInBounds_toArray, List.set_cons_zero, List.set_cons_succ]
                refine wpAnyK_one (i := 6) (fuel := 9) rfl (by kernel_rfl) rfl (fun K hK => ?_)
                refine op_runs (some 97) rfl (ex_append_nil h _ _ _ rfl rfl A n c rfl (h.sl A n c) (u8s_one _) (by simp [maxLen]; omega) (by omega)) ?_; clear h; rintro _ w ⟨A97, c97, rfl, h⟩; refine hK.out _ _ (fun _ => h.to) ?_; clear hK K
                try simp only [Act.put, List.setIfInBounds_toArray, List.set_cons_zero, List.set_cons_succ]
                refine wpAnyK_pure 98 (v := ?_) (i := 7) (fuel := 8) rfl rfl (by kernel_rfl) (by kernel_rfl) (by kernel_rfl) (by decide) (fun _ _ _ h => h) (Or.inl ⟨by rfl, fun w _ => ?_⟩) ?_; rotate_left; (go_simp; with_reducible rfl); simp only [Act.put, List.setIfInBounds_toArray, List.set_cons_zero, List.set_cons_succ]
                refine wpAnyK_pure 99 (v := ?_) (i := 8) (fuel := 7) rfl rfl (by kernel_rfl) (by kernel_rfl) (by kernel_rfl) (by decide) (fun _ _ _ h => h) (Or.inl ⟨by rfl, fun w _ => ?_⟩) ?_; rotate_left; (go_simp; with_reducible rfl); simp only [Act.put, List.setIfInBounds_toArray, List.set_cons_zero, List.set_cons_succ]
                refine wpAnyK_one (i := 9) (fuel := 6) rfl (by kernel_rfl) rfl (fun K hK => ?_)
                refine op_runs none rfl (ex_store1s h _ _ _ rfl _ _ rfl _ _ _ rfl) ?_; clear h; rintro _ w ⟨rfl, h⟩; refine hK.out _ _ (SJ.past (by kernel_rfl)) ?_; clear hK K
                try simp only [Act.put, List.setIfInBounds_toArray, List.set_cons_zero, List.set_cons_succ]
                refine wpAnyK_pure 100 (v := ?_) (i := 10) (fuel := 5) rfl rfl (by kernel_rfl) (by kernel_rfl) (by kernel_rfl) (by decide) (fun _ _ _ h => h) (Or.inl ⟨by rfl, fun w _ => ?_⟩) ?_; rotate_left; (go_simp; with_reducible rfl); simp only [Act.put, List.setIfInBounds_toArray, List.set_cons_zero, List.set_cons_succ]
                refine wpAnyK_pure 101 (v := ?_) (i := 11) (fuel := 4) rfl rfl (by kernel_rfl) (by kernel_rfl) (by kernel_rfl) (by decide) (fun _ _ _ h => h) (Or.inl ⟨by rfl, fun w _ => ?_⟩) ?_; rotate_left; (go_simp; with_reducible rfl); simp only [Act.put, List.setIfInBounds_toArray, List.set_cons_zero, List.set_cons_succ]
                refine wpAnyK_one (i := 12) (fuel := 3) rfl (by kernel_rfl) rfl (fun K hK => ?_)
                refine op_runs none rfl (ex_store1s h _ _ _ rfl _ _ rfl _ _ _ rfl) ?_; clear h; rintro _ w ⟨rfl, h⟩; refine hK.out _ _ (SJ.past (by kernel_rfl)) ?_; clear hK K
                try simp only [Act.put, List.setIfInBounds_toArray, List.set_cons_zero, List.set_cons_succ]
                refine wpAnyK_pure 102 (v := ?_) (i := 13) (fuel := 2) rfl rfl (by kernel_rfl) (by kernel_rfl) (by kernel_rfl) (by decide) (fun _ _ _ h => h) (Or.inl ⟨by rfl, fun w _ => ?_⟩) ?_; rotate_left; (go_simp; with_reducible rfl); simp only [Act.put, List.setIfInBounds_toArray, List.set_cons_zero, List.set_cons_succ]
                refine wpAnyK_pure 103 (v := ?_) (i := 14) (fuel := 1) rfl rfl (by kernel_rfl) (by kernel_rfl) (by kernel_rfl) (by decide) (fun _ _ _ h => h) (Or.inl ⟨by rfl, fun w _ => ?_⟩) ?_; rotate_left; (go_simp; with_reducible rfl); simp only [Act.put, List.setIfInBounds_toArray, List.set_cons_zero, List.set_cons_succ]
                refine wpAnyK_one (i := 15) (fuel := 0) rfl (by kernel_rfl) rfl (fun K hK => ?_)
                refine op_runs none rfl (ex_store1b h _ _ _ rfl _ _ rfl _ rfl) ?_; clear h; rintro _ w ⟨rfl, h⟩; refine hK.out _ _ (SJ.past (by kernel_rfl)) ?_; clear hK K
                try simp only [Act.put, List.setIfInBounds_toArray, List.set_cons_zero, List.set_cons_succ]
                refine wpAnyK_done (by kernel_rfl) ?_
                go_wp2_with (first | (refine wl_none rfl ?_; refine wl_runs rfl (ex_store h _ _ _ rfl _ _ rfl _ rfl) ?_; clear h; rintro _ w ⟨rfl, h⟩; try dsimp only [Act.put]) | (refine wl_reads rfl (ex_lit0 _ rfl) ?_))
                refine bodyPost_ret (res_cell_tmp rfl rfl rfl (h.loadVar 49 g4 0)) rfl ?_
                rw [HM.out, Hy.out]
                have q1 : St S w0 w (RSP g ⟨tA, tc, some ⟨b0, off, none⟩, rc, xiA, xi.length, xic, A97, n, c97, true⟩ ⟨mode, tape, R⟩ F) := h.to
                exact ⟨rfl, _, ⟨mode, tape, R⟩, rfl, q1.rsShut⟩
              · go_wp2_with (first | (refine wl_reads rfl (ex_loadv h _ _ rfl _ _ rfl) ?_) | (refine wl_none rfl ?_; refine wl_runs rfl (ex_store h _ _ _ rfl _ _ rfl _ rfl) ?_; clear h; rintro _ w ⟨rfl, h⟩; try dsimp only [Act.put]) | (refine wl_reads rfl (ex_lit0 _ rfl) ?_))
                refine bodyPost_ret (res_cell_tmp rfl rfl rfl (h.loadVar 49 g4 0)) rfl ?_
                rw [HM.out, Hy.out]
                have q1 : St S w0 w (RSP g ⟨tA, tc, some ⟨b0, off, none⟩, rc, a1, n1, c1, a2, n2, c2, true⟩ ⟨mode, tape, R⟩ F) := h.to
                exact ⟨rfl, _, ⟨mode, tape, R⟩, rfl, q1.rsShut⟩
          · have d2 : ((str xo).toList == (str d.1).toList) = false := by rw [str_toList, str_toList]; simpa using e2
            have Hn := Lib.hid (Hnot.out (decide_eq_false fun hh => e2 hh.2.1))
            clear Hyes Hnot e1 e2 hxl
            refine wp_region_K 19 (fun w' => St _ _ w' _) (by kernel_rfl) h.drew ?_; replace h := h.drew
            refine wpAnyK_pure 67 (v := ?_) (i := 0) (fuel := 18) rfl rfl (by kernel_rfl) (by kernel_rfl) (by kernel_rfl) (by decide) (fun _ _ _ h => h) (Or.inl ⟨by rfl, fun w _ => ?_⟩) ?_; rotate_left; (go_simp; with_reducible rfl); simp only [Act.put, List.setIfInBounds_toArray, List.set_cons_zero, List.set_cons_succ]
            refine wpAnyK_load 68 (i := 1) (fuel := 17) rfl rfl (by kernel_rfl) (by kernel_rfl) (by kernel_rfl) (.inr (by decide)) (by decide) (fun _ _ _ h => h) rfl (fun w h => ex_loadv h _ _ rfl _ _ rfl) ?_; simp only [Act.put, List.setIfInBounds_toArray, List.set_cons_zero, List.set_cons_succ]
            refine wpAnyK_pure 69 (v := ?_) (i := 2) (fuel := 16) rfl rfl (by kernel_rfl) (by kernel_rfl) (by kernel_rfl) (by decide) (fun _ _ _ h => h) (Or.inl ⟨by rfl, fun w _ => ?_⟩) ?_; rotate_left; (go_simp; with_reducible rfl); simp only [Act.put, List.setIfInBounds_toArray, List.set_cons_zero, List.set_cons_succ]
            refine wpAnyK_pure 70 (v := ?_) (i := 3) (fuel := 15) rfl rfl (by kernel_rfl) (by kernel_rfl) (by kernel_rfl) (by decide) (fun _ _ _ h => h) (Or.inl ⟨by rfl, fun w _ => ?_⟩) ?_; rotate_left; (go_simp; with_reducible rfl); simp only [Act.put, List.setIfInBounds_toArray, List.set_cons_zero, List.set_cons_succ]
            refine wpAnyK_pure 71 (v := ?_) (i := 4) (fuel := 14) rfl rfl (by kernel_rfl) (by kernel_rfl) (by kernel_rfl) (by decide) (fun _ _ _ h => h) (Or.inl ⟨by rfl, fun w _ => ?_⟩) ?_; rotate_left; (go_simp; with_reducible rfl); simp only [Act.put, List.setIfInBounds_toArray, List.set_cons_zero, List.set_cons_succ]
            refine wpAnyK_load 72 (i := 5) (fuel := 13) rfl rfl (by kernel_rfl) (by kernel_rfl) (by kernel_rfl) (.inr (by decide)) (by decide) (fun _ _ _ h => h) rfl (fun w h => ex_loadv h _ _ rfl _ _ rfl) ?_; simp only [Act.put, List.setIfInBounds_toArray, List.set_cons_zero, List.set_cons_succ]
            refine wpAnyK_load 73 (i := 6) (fuel := 12) rfl rfl (by kernel_rfl) (by kernel_rfl) (by kernel_rfl) (.inr (by decide)) (by decide) (fun _ _ _ h => h) rfl (fun w h => ex_string _ _ _ rfl Try.underlying5 Try.underlying9 xoA xo.length xoc rfl (h.sl xoA xo.length xoc)) ?_; simp only [Act.put, List.setIfInBounds_toArray, List.set_cons_zero, List.set_cons_succ]
            refine wpAnyK_pure 74 (v := ?_) (i := 7) (fuel := 11) rfl rfl (by kernel_rfl) (by kernel_rfl) (by kernel_rfl) (by decide) (fun _ _ _ h => h) (Or.inl ⟨by rfl, fun w _ => ?_⟩) ?_; rotate_left; (go_simp; with_reducible rfl); simp only [Act.put, List.setIfInBounds_toArray, List.set_cons_zero, List.set_cons_succ]
            refine wpAnyK_load 75 (i := 8) (fuel := 10) rfl rfl (by kernel_rfl) (by kernel_rfl) (by kernel_rfl) (.inr (by decide)) (by decide) (fun _ _ _ h => h) rfl (fun w h => ex_string _ _ _ rfl Try.underlying5 Try.underlying9 (some ⟨g6, 0, none⟩) 32 32 rfl (h.sl (some ⟨g6, 0, none⟩) 32 32)) ?_; simp only [Act.put, List.setIfInBounds_toArray, List.set_cons_zero, List.set_cons_succ]
            refine wpAnyK_pure 76 (v := ?_) (i := 9) (fuel := 9) rfl rfl (by kernel_rfl) (by kernel_rfl) (by kernel_rfl) (by decide) (fun _ _ _ h => h) (Or.inl ⟨by rfl, fun w _ => ?_⟩) ?_; rotate_left; (go_simp; with_reducible rfl); simp only [Act.put, List.setIfInBounds_toArray, List.set_cons_zero, List.set_cons_succ]
            refine wpAnyK_pure 77 (v := ?_) (i := 10) (fuel := 8) rfl rfl (by kernel_rfl) (by kernel_rfl) (by kernel_rfl) (by decide) (fun _ _ _ h => h) (Or.inl ⟨by rfl, fun w _ => ?_⟩) ?_; rotate_left; (go_simp; with_reducible rfl); simp only [Act.put, List.setIfInBounds_toArray, List.set_cons_zero, List.set_cons_succ]
            refine wpAnyK_pure 78 (v := ?_) (i := 11) (fuel := 7) rfl rfl (by kernel_rfl) (by kernel_rfl) (by kernel_rfl) (by decide) (fun _ _ _ h => h) (Or.inl ⟨by rfl, fun w _ => ?_⟩) ?_; rotate_left; (go_simp; with_reducible rfl); simp only [Act.put, List.setIfInBounds_toArray, List.set_cons_zero, List.set_cons_succ]
            refine wpAnyK_not 79 (i := 12) (fuel := 6) rfl rfl (by kernel_rfl) (by kernel_rfl) (by kernel_rfl) (by decide) (fun _ _ _ h => h) (by rfl) ?_; simp only [Act.put, List.setIfInBounds_toArray, List.set_cons_zero, List.set_cons_succ]
            refine wpAnyK_not 80 (i := 13) (fuel := 5) rfl rfl (by kernel_rfl) (by kernel_rfl) (by kernel_rfl) (by decide) (fun _ _ _ h => h) (by rfl) ?_; simp only [Act.put, List.setIfInBounds_toArray, List.set_cons_zero, List.set_cons_succ]
            refine wpAnyK_not 81 (i := 14) (fuel := 4) rfl rfl (by kernel_rfl) (by kernel_rfl) (by kernel_rfl) (by decide) (fun _ _ _ h => h) (by rfl) ?_; simp only [Act.put, List.setIfInBounds_toArray, List.set_cons_zero, List.set_cons_succ]
            refine wpAnyK_not 82 (i := 15) (fuel := 3) rfl rfl (by kernel_rfl) (by kernel_rfl) (by kernel_rfl) (by decide) (fun _ _ _ h => h) (by rfl) ?_; simp only [Act.put, List.setIfInBounds_toArray, List.set_cons_zero, List.set_cons_succ]
            refine wpAnyK_not 83 (i := 16) (fuel := 2) rfl rfl (by kernel_rfl) (by kernel_rfl) (by kernel_rfl) (by decide) (fun _ _ _ h => h) (by rfl) ?_; simp only [Act.put, List.setIfInBounds_toArray, List.set_cons_zero, List.set_cons_succ]
            refine wpAnyK_not 84 (i := 17) (fuel := 1) rfl rfl (by kernel_rfl) (by kernel_rfl) (by kernel_rfl) (by decide) (fun _ _ _ h => h) (by rfl) ?_; simp only [Act.put, List.setIfInBounds_toArray, List.set_cons_zero, List.set_cons_succ]
            refine wpAnyK_pure 85 (v := ?_) (i := 18) (fuel := 0) rfl rfl (by kernel_rfl) (by kernel_rfl) (by kernel_rfl) (by decide) (fun _ _ _ h => h) (Or.inl ⟨by rfl, fun w _ => ?_⟩) ?_; rotate_left; (go_simp; with_reducible rfl); simp only [Act.put, List.setIfInBounds_toArray, List.set_cons_zero, List.set_cons_succ]
            refine wpAnyK_done (by kernel_rfl) ?_
            go_wp2_with (first | (refine wl_reads rfl (ex_loadv h _ _ rfl _ _ rfl) ?_))
            go_roundw
            case rel => exact ⟨j + 1, by go_num, by omega, Hn, h.to⟩
            case measure => simp [intOf]; omega
        · have d1 : ((xk.1 : Int) == 2) = false := by simp; omega
          have Hn := Lib.hid (Hnot.out (decide_eq_false fun hh => e1 hh.1))
          clear Hyes Hnot e1 hxl
          refine wp_region_K 19 (fun w' => St _ _ w' _) (by kernel_rfl) h.drew ?_; replace h := h.drew
          refine wpAnyK_pure 67 (v := ?_) (i := 0) (fuel := 18) rfl rfl (by kernel_rfl) (by kernel_rfl) (by kernel_rfl) (by decide) (fun _ _ _ h => h) (Or.inl ⟨by rfl, fun w _ => ?_⟩) ?_; rotate_left; (go_simp; with_reducible rfl); simp only [Act.put, List.setIfInBounds_toArray, List.set_cons_zero, List.set_cons_succ]
          refine wpAnyK_load 68 (i := 1) (fuel := 17) rfl rfl (by kernel_rfl) (by kernel_rfl) (by kernel_rfl) (.inr (by decide)) (by decide) (fun _ _ _ h => h) rfl (fun w h => ex_loadv h _ _ rfl _ _ rfl) ?_; simp only [Act.put, List.setIfInBounds_toArray, List.set_cons_zero, List.set_cons_succ]
          refine wpAnyK_pure 69 (v := ?_) (i := 2) (fuel := 16) rfl rfl (by kernel_rfl) (by kernel_rfl) (by kernel_rfl) (by decide) (fun _ _ _ h => h) (Or.inl ⟨by rfl, fun w _ => ?_⟩) ?_; rotate_left; (go_simp; with_reducible rfl); simp only [Act.put, List.setIfInBounds_toArray, List.set_cons_zero, List.set_cons_succ]
          refine wpAnyK_pure 70 (v := ?_) (i := 3) (fuel := 15) rfl rfl (by kernel_rfl) (by kernel_rfl) (by kernel_rfl) (by decide) (fun _ _ _ h => h) (Or.inl ⟨by rfl, fun w _ => ?_⟩) ?_; rotate_left; (go_simp; with_reducible rfl); simp only [Act.put, List.setIfInBounds_toArray, List.set_cons_zero, List.set_cons_succ]
          refine wpAnyK_not 71 (i := 4) (fuel := 14) rfl rfl (by kernel_rfl) (by kernel_rfl) (by kernel_rfl) (by decide) (fun _ _ _ h => h) (by rfl) ?_; simp only [Act.put, List.setIfInBounds_toArray, List.set_cons_zero, List.set_cons_succ]
          refine wpAnyK_not 72 (i := 5) (fuel := 13) rfl rfl (by kernel_rfl) (by kernel_rfl) (by kernel_rfl) (by decide) (fun _ _ _ h => h) (by rfl) ?_; simp only [Act.put, List.setIfInBounds_toArray, List.set_cons_zero, List.set_cons_succ]
          refine wpAnyK_not 73 (i := 6) (fuel := 12) rfl rfl (by kernel_rfl) (by kernel_rfl) (by kernel_rfl) (by decide) (fun _ _ _ h => h) (by rfl) ?_; simp only [Act.put, List.setIfInBounds_toArray, List.set_cons_zero, List.set_cons_succ]
          refine wpAnyK_not 74 (i := 7) (fuel := 11) rfl rfl (by kernel_rfl) (by kernel_rfl) (by kernel_rfl) (by decide) (fun _ _ _ h => h) (by rfl) ?_; simp only [Act.put, List.setIfInBounds_toArray, List.set_cons_zero, List.set_cons_succ]
          refine wpAnyK_not 75 (i := 8) (fuel := 10) rfl rfl (by kernel_rfl) (by kernel_rfl) (by kernel_rfl) (by decide) (fun _ _ _ h => h) (by rfl) ?_; simp only [Act.put, List.setIfInBounds_toArray, List.set_cons_zero, List.set_cons_succ]
          refine wpAnyK_not 76 (i := 9) (fuel := 9) rfl rfl (by kernel_rfl) (by kernel_rfl) (by kernel_rfl) (by decide) (fun _ _ _ h => h) (by rfl) ?_; simp only [Act.put, List.setIfInBounds_toArray, List.set_cons_zero, List.set_cons_succ]
          refine wpAnyK_pure 77 (v := ?_) (i := 10) (fuel := 8) rfl rfl (by kernel_rfl) (by kernel_rfl) (by kernel_rfl) (by decide) (fun _ _ _ h => h) (Or.inl ⟨by rfl, fun w _ => ?_⟩) ?_; rotate_left; (go_simp; with_reducible rfl); simp only [Act.put, List.setIfInBounds_toArray, List.set_cons_zero, List.set_cons_succ]
          refine wpAnyK_pure 78 (v := ?_) (i := 11) (fuel := 7) rfl rfl (by kernel_rfl) (by kernel_rfl) (by kernel_rfl) (by decide) (fun _ _ _ h => h) (Or.inl ⟨by rfl, fun w _ => ?_⟩) ?_; rotate_left; (go_simp; with_reducible rfl); simp only [Act.put, List.setIfInBounds_toArray, List.set_cons_zero, List.set_cons_succ]
          refine wpAnyK_not 79 (i := 12) (fuel := 6) rfl rfl (by kernel_rfl) (by kernel_rfl) (by kernel_rfl) (by decide) (fun _ _ _ h => h) (by rfl) ?_; simp only [Act.put, List.setIfInBounds_toArray, List.set_cons_zero, List.set_cons_succ]
          refine wpAnyK_not 80 (i := 13) (fuel := 5) rfl rfl (by kernel_rfl) (by kernel_rfl) (by kernel_rfl) (by decide) (fun _ _ _ h => h) (by rfl) ?_; simp only [Act.put, List.setIfInBounds_toArray, List.set_cons_zero, List.set_cons_succ]
          refine wpAnyK_not 81 (i := 14) (fuel := 4) rfl rfl (by kernel_rfl) (by kernel_rfl) (by kernel_rfl) (by decide) (fun _ _ _ h => h) (by rfl) ?_; simp only [Act.put, List.setIfInBounds_toArray, List.set_cons_zero, List.set_cons_succ]
          refine wpAnyK_not 82 (i := 15) (fuel := 3) rfl rfl (by kernel_rfl) (by kernel_rfl) (by kernel_rfl) (by decide) (fun _ _ _ h => h) (by rfl) ?_; simp only [Act.put, List.setIfInBounds_toArray, List.set_cons_zero, List.set_cons_succ]
          refine wpAnyK_not 83 (i := 16) (fuel := 2) rfl rfl (by kernel_rfl) (by kernel_rfl) (by kernel_rfl) (by decide) (fun _ _ _ h => h) (by rfl) ?_; simp only [Act.put, List.setIfInBounds_toArray, List.set_cons_zero, List.set_cons_succ]
          refine wpAnyK_not 84 (i := 17) (fuel := 1) rfl rfl (by kernel_rfl) (by kernel_rfl) (by kernel_rfl) (by decide) (fun _ _ _ h => h) (by rfl) ?_; simp only [Act.put, List.setIfInBounds_toArray, List.set_cons_zero, List.set_cons_succ]
          refine wpAnyK_pure 85 (v := ?_) (i := 18) (fuel := 0) rfl rfl (by kernel_rfl) (by kernel_rfl) (by kernel_rfl) (by decide) (fun _ _ _ h => h) (Or.inl ⟨by rfl, fun w _ => ?_⟩) ?_; rotate_left; (go_simp; with_reducible rfl); simp only [Act.put, List.setIfInBounds_toArray, List.set_cons_zero, List.set_cons_succ]
          refine wpAnyK_done (by kernel_rfl) ?_
          go_wp2_with (first | (refine wl_reads rfl (ex_loadv h _ _ rfl _ _ rfl) ?_))
          go_roundw
          case rel => exact ⟨j + 1, by go_num, by omega, Hn, h.to⟩
          case measure => simp [intOf]; omega
      · have f1 : ¬ (j : Int) < (R.length : Int) := by omega
        have hj2 : j = R.length := by omega
        subst hj2
        have Hf := Lib.hid (rclose_no (D := d.1) (b := b) (s := ⟨mode, tape, R⟩) Hno.out)
        go_wp2_with (first | (refine wl_none rfl ?_; refine wl_runs rfl (ex_store h _ _ _ rfl _ _ rfl _ rfl) ?_; clear h; rintro _ w ⟨rfl, h⟩; try dsimp only [Act.put]) | (refine wl_reads rfl (ex_loadv h _ _ rfl _ _ rfl) ?_))
        refine bodyPost_ret (res_cell_tmp rfl rfl rfl (h.loadVar 49 g4 0)) rfl ?_
        rw [HM.out, Hf.out]
        have q1 : St S w0 w (RSP g ⟨tA, tc, rA, rc, a1, n1, c1, a2, n2, c2, cl⟩ ⟨mode, tape, R⟩ F) := h.to
        exact ⟨rfl, _, ⟨mode, tape, R⟩, rfl, q1.rsShut⟩
  · rw [if_neg he]
    have f2 : ((e0 : Int) == 0) = false := by simp; omega
    have f3 : ((e0 : Int) != 0) = true := by simp; omega
    clear hl
    go_enter Try.func52, Try.ntmps52
    go_wp2_with (first
      | (refine wl_at 4 rfl ?_; refine wl_runs rfl (ex_alloc h 49 rfl) ?_; clear h; rintro _ w ⟨g4, rfl, h⟩) | (refine wl_at 6 rfl ?_; refine wl_runs rfl (ex_alloc h 49 rfl) ?_; clear h; rintro _ w ⟨g6, rfl, h⟩) | (go_at_call 78; replace h : St S w0 w (RSP g k s (eBlk g6 49 (u8s (zeros 32)) :: eBlk g4 49 (u8s (zeros 32)) :: eSl none 0 0 1 (u8s []) :: F)) := h.to; replace h := h.rsShut; refine (Hc.out _ _ _ _ inferInstance inferInstance h).mono ?_; clear h;  rintro e w ⟨A1, c9, k1, s1, rfl, hs1, h⟩)
      | (refine wl_none rfl ?_; refine wl_runs rfl (ex_store h _ _ _ rfl _ _ rfl _ rfl) ?_; clear h; rintro _ w ⟨rfl, h⟩; try dsimp only [Act.put]) | (refine wl_reads rfl (ex_lit0 _ rfl) ?_) | (refine wl_reads rfl (ex_loadv h _ _ rfl _ _ rfl) ?_))
    refine bodyPost_ret (res_cell_tmp rfl rfl rfl (h.loadVar 49 g4 0)) rfl ?_
    exact ⟨rfl, k1, s1, hs1, h.to⟩
end Go.Proofs.Ytcmgjoamfjijhaa
