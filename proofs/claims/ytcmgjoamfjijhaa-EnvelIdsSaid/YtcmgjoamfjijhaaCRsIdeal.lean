/- What the reference's ideal suite answers. -/
import Derived.Test.YtcmgjoamfjijhaaCRsAsked
namespace Go.Proofs.Ytcmgjoamfjijhaa
open Go.RowKit Go.Maps
set_option linter.unusedVariables false
set_option linter.unusedSimpArgs false

abbrev PR := Nat × Id × List UInt8 × List UInt8 × List UInt8
def rpr (x : RRow) : PR := (x.kind.1, x.k, x.lab, x.inp, x.out)
def phit (q : Nat) (k : Id) (lab inp : List UInt8) (x : PR) : Bool := decide (x.1 = q ∧ x.2.1 = k ∧ x.2.2.1 = lab ∧ x.2.2.2.1 = inp)
def pfind (rows : List PR) (q : Nat) (k : Id) (lab inp : List UInt8) : Option PR := rows.find? (phit q k lab inp)
theorem pfind_map (rows : List RRow) (q : Nat) (k : Id) (lab inp : List UInt8) : pfind (rows.map rpr) q k lab inp = (rfind rows q k lab inp).map rpr := by
  unfold pfind rfind
  rw [List.find?_map]
  rfl
structure PRs where
  mode : Nat
  tape : List UInt8
  rows : List PR
def RSu.pr (s : RSu) : PRs := ⟨s.mode, s.tape, s.rows.map rpr⟩
/-- The answer, the error's number, what is then. -/
def ridealM (q : Nat) (k : Id) (lab inp : List UInt8) (n : Nat) (s : PRs) : List UInt8 × Nat × PRs := match pfind s.rows q k lab inp with
  | some x => (x.2.2.2.2, 0, s)
  | none => if n ≤ s.tape.length then (s.tape.take n, 0, { s with tape := s.tape.drop n, rows := s.rows ++ [(q, k, lab, inp, s.tape.take n)] }) else ([], 60, s)
theorem ridealM_len {q : Nat} {k : Id} {lab inp : List UInt8} {n : Nat} {s : PRs} (hn : n ≤ s.tape.length) (hp : pfind s.rows q k lab inp = none) : (ridealM q k lab inp n s).1.length = n := by
  unfold ridealM
  rw [hp]
  simp only [if_pos hn, List.length_take]
  omega
set_option maxRecDepth 100000 in
set_option maxHeartbeats 1000000 in
theorem rs_ideal {S : Nat → Prop} {w0 w : World} {L F : List Ent} {g : Nat} {k : RsAt} {s : RSu} {A B : Option Addr} {n c m d : Nat} {lab inp : List UInt8} (h : St S w0 w L) [sl : SlotV L g k s F] [ka : HasSl F A n c 1 (u8s lab)] [kb : HasSl F B m d 1 (u8s inp)] (q : Nat) (hq : q < 100) (key : Id) (N : Nat) (hN : N ≤ 1000000)
    (hr : s.rows.length ≤ 1000000) (hn : n ≤ 1000000) (hm : m ≤ 1000000) :
    Calls Try.prog 78 #[.pointer (some ⟨g, 0, none⟩), .int .i64 (q : Int), .agg (u8s key.1).toArray, .slice A n c, .slice B m d, .int .i64 (N : Int)] w fun e w' => ∃ A1 c1 k' s', e = .returned (.tuple #[.slice A1 (ridealM q key lab inp N s.pr).1.length c1, .int .i64 ((ridealM q key lab inp N s.pr).2.1 : Int)]) ∧ s'.pr = (ridealM q key lab inp N s.pr).2.2 ∧ St S w0 w' (eSl A1 (ridealM q key lab inp N s.pr).1.length c1 1 (u8s (ridealM q key lab inp N s.pr).1) :: eRs g k' s' :: F) := by
  have hrk : Row (u8s key.1) 32 := Row.u32 key
  replace h := h.perm sl.perm
  have hnl : lab.length = n := (u8s_length lab).symm.trans (by simpa using (h.sl A n c).len)
  have hml : inp.length = m := (u8s_length inp).symm.trans (by simpa using (h.sl B m d).len)
  cases hf : rfind s.rows q key lab inp with
  | some x =>
    have hM : ridealM q key lab inp N s.pr = (x.out, 0, s.pr) := by unfold ridealM; rw [show s.pr.rows = s.rows.map rpr from rfl, pfind_map, hf]; rfl
    rw [hM]
    have hx := rfind_mem hf
    have Hf := Lib.hid hf
    clear hM hf hnl hml
    go_enter Try.func78, Try.ntmps78
    go_wp2_with (first
      | (refine wl_runs rfl (ex_box h 29 _ rfl (u8s key.1) rfl) ?_; clear h; rintro _ w ⟨g8, rfl, h⟩)
      | (go_at_call 87; refine (rs_asked (g := g) (A := A) (n := n) (c := c) (lab := lab) (B := B) (m := m) (d := d) (inp := inp) h q hq key).mono ?_; rw [Hf.out]; simp only [rans]; clear h; rintro e w ⟨rfl, h⟩)
      | (refine wl_reads rfl (ex_loadv h _ _ rfl _ _ rfl) ?_) | (refine wl_runs rfl (ex_store1i h _ _ _ rfl _ _ rfl _ _ rfl) ?_; clear h; rintro _ w ⟨rfl, h⟩; try dsimp only [Act.put]) | (refine wl_runs rfl (ex_store1s h _ _ _ rfl _ _ rfl _ _ _ rfl) ?_; clear h; rintro _ w ⟨rfl, h⟩; try dsimp only [Act.put]) | (refine wl_runs rfl (ex_store1b h _ _ _ rfl _ _ rfl _ rfl) ?_; clear h; rintro _ w ⟨rfl, h⟩; try dsimp only [Act.put]) | (refine wl_runs rfl (ex_store1t h _ _ _ rfl _ _ rfl _ rfl) ?_; clear h; rintro _ w ⟨rfl, h⟩; try dsimp only [Act.put]) | (refine wl_runs rfl (ex_store1p h _ _ _ rfl _ _ rfl _ rfl) ?_; clear h; rintro _ w ⟨rfl, h⟩; try dsimp only [Act.put]) | (refine wl_runs rfl (ex_store1m h _ _ _ rfl _ _ rfl _ rfl) ?_; clear h; rintro _ w ⟨rfl, h⟩; try dsimp only [Act.put]) | (refine wl_runs rfl (ex_store h _ _ _ rfl _ _ rfl _ rfl) ?_; clear h; rintro _ w ⟨rfl, h⟩; try dsimp only [Act.put]) | (refine wl_runs rfl (ex_alloc h _ rfl) ?_; clear h; rintro _ w ⟨g, rfl, h⟩) | (refine wl_runs rfl (ex_box h _ _ rfl _ rfl) ?_; clear h; rintro _ w ⟨g, rfl, h⟩) | (refine wl_runs rfl (ex_box1i h _ _ rfl _ _ rfl) ?_; clear h; rintro _ w ⟨g, rfl, h⟩) | (refine wl_runs rfl (ex_box1s h _ _ rfl _ _ _ rfl) ?_; clear h; rintro _ w ⟨g, rfl, h⟩) | (refine wl_runs rfl (ex_box1b h _ _ rfl _ rfl) ?_; clear h; rintro _ w ⟨g, rfl, h⟩) | (refine wl_runs rfl (ex_box1t h _ _ rfl _ rfl) ?_; clear h; rintro _ w ⟨g, rfl, h⟩) | (refine wl_runs rfl (ex_box1p h _ _ rfl _ rfl) ?_; clear h; rintro _ w ⟨g, rfl, h⟩) | (refine wl_runs rfl (ex_box1m h _ _ rfl _ rfl) ?_; clear h; rintro _ w ⟨g, rfl, h⟩) | (refine wl_runs rfl (ex_slice1 h _ _ rfl _ rfl) ?_; clear h; rintro _ w ⟨g, rfl, h⟩) | (refine wl_runs rfl (ex_slice1i h _ _ rfl _ _ rfl) ?_; clear h; rintro _ w ⟨g, rfl, h⟩) | (refine wl_runs rfl (ex_slice1s h _ _ rfl _ _ _ rfl) ?_; clear h; rintro _ w ⟨g, rfl, h⟩) | (refine wl_runs rfl (ex_slice1b h _ _ rfl _ rfl) ?_; clear h; rintro _ w ⟨g, rfl, h⟩) | (refine wl_runs rfl (ex_slice1t h _ _ rfl _ rfl) ?_; clear h; rintro _ w ⟨g, rfl, h⟩) | (refine wl_runs rfl (ex_slice1p h _ _ rfl _ rfl) ?_; clear h; rintro _ w ⟨g, rfl, h⟩) | (refine wl_runs rfl (ex_slice1m h _ _ rfl _ rfl) ?_; clear h; rintro _ w ⟨g, rfl, h⟩) | (refine wl_reads rfl (ex_lit0 _ rfl) ?_))
    go_ret2
    have h2 := h.rsOut hx
    exact ⟨x.oA, x.oc, k, s, rfl, rfl, h2.to⟩
  | none =>
    have hp : pfind s.pr.rows q key lab inp = none := by rw [show s.pr.rows = s.rows.map rpr from rfl, pfind_map, hf]; rfl
    have Hf := Lib.hid hf
    by_cases hle : N ≤ s.tape.length
    · have hM : ridealM q key lab inp N s.pr = (s.tape.take N, 0, ⟨s.mode, s.tape.drop N, s.rows.map rpr ++ [(q, key, lab, inp, s.tape.take N)]⟩) := by unfold ridealM; rw [hp]; exact if_pos hle
      have htl : (s.tape.take N).length = N := by rw [List.length_take]; omega
      have htk : takeM N s.tape = (s.tape.take N, s.tape.drop N) := takeM_yes hle
      have hte : takeE N s.tape = 0 := takeE_yes hle
      rw [hM]
      simp only [htl]
      obtain ⟨T, hT⟩ : ∃ T, s.tape.take N = T := ⟨_, rfl⟩
      obtain ⟨D, hD⟩ : ∃ D, s.tape.drop N = D := ⟨_, rfl⟩
      rw [hT] at htk htl ⊢
      rw [hD] at htk ⊢
      have Htk := Lib.hid htk
      have Hte := Lib.hid hte
      have Htl := Lib.hid htl
      have Hnl := Lib.hid hnl
      have Hml := Lib.hid hml
      obtain ⟨mode, tape, rows⟩ := s
      simp only at hr Hf Htk Hte ⊢
      clear hM hf hnl hml hT hD htk hte htl hp hle
      go_enter Try.func78, Try.ntmps78
      go_wp2_with (first
        | (refine wl_runs rfl (ex_box h 29 _ rfl (u8s key.1) rfl) ?_; clear h; rintro _ w ⟨g8, rfl, h⟩)
        | (go_at_call 87; refine (rs_asked (g := g) (A := A) (n := n) (c := c) (lab := lab) (B := B) (m := m) (d := d) (inp := inp) h q hq key).mono ?_; rw [Hf.out]; simp only [rans]; clear h; rintro e w ⟨rfl, h⟩; replace h := h.rsShut)
        | (go_at_call 100; refine (rs_take (g := g) h N (by omega)).mono ?_; simp only [Htk.out, Hte.out, Htl.out]; clear h; rintro e w ⟨A1, c1, rfl, k2, h⟩; replace h := h.rsOpen g)
        | (refine wl_reads rfl (ex_loadv h _ _ rfl _ _ rfl) ?_) | (refine wl_runs rfl (ex_store1i h _ _ _ rfl _ _ rfl _ _ rfl) ?_; clear h; rintro _ w ⟨rfl, h⟩; try dsimp only [Act.put]) | (refine wl_runs rfl (ex_store1s h _ _ _ rfl _ _ rfl _ _ _ rfl) ?_; clear h; rintro _ w ⟨rfl, h⟩; try dsimp only [Act.put]) | (refine wl_runs rfl (ex_store1b h _ _ _ rfl _ _ rfl _ rfl) ?_; clear h; rintro _ w ⟨rfl, h⟩; try dsimp only [Act.put]) | (refine wl_runs rfl (ex_store1t h _ _ _ rfl _ _ rfl _ rfl) ?_; clear h; rintro _ w ⟨rfl, h⟩; try dsimp only [Act.put]) | (refine wl_runs rfl (ex_store1p h _ _ _ rfl _ _ rfl _ rfl) ?_; clear h; rintro _ w ⟨rfl, h⟩; try dsimp only [Act.put]) | (refine wl_runs rfl (ex_store1m h _ _ _ rfl _ _ rfl _ rfl) ?_; clear h; rintro _ w ⟨rfl, h⟩; try dsimp only [Act.put]) | (refine wl_runs rfl (ex_store h _ _ _ rfl _ _ rfl _ rfl) ?_; clear h; rintro _ w ⟨rfl, h⟩; try dsimp only [Act.put]) | (refine wl_runs rfl (ex_alloc h _ rfl) ?_; clear h; rintro _ w ⟨g, rfl, h⟩) | (refine wl_runs rfl (ex_box h _ _ rfl _ rfl) ?_; clear h; rintro _ w ⟨g, rfl, h⟩) | (refine wl_runs rfl (ex_box1i h _ _ rfl _ _ rfl) ?_; clear h; rintro _ w ⟨g, rfl, h⟩) | (refine wl_runs rfl (ex_box1s h _ _ rfl _ _ _ rfl) ?_; clear h; rintro _ w ⟨g, rfl, h⟩) | (refine wl_runs rfl (ex_box1b h _ _ rfl _ rfl) ?_; clear h; rintro _ w ⟨g, rfl, h⟩) | (refine wl_runs rfl (ex_box1t h _ _ rfl _ rfl) ?_; clear h; rintro _ w ⟨g, rfl, h⟩) | (refine wl_runs rfl (ex_box1p h _ _ rfl _ rfl) ?_; clear h; rintro _ w ⟨g, rfl, h⟩) | (refine wl_runs rfl (ex_box1m h _ _ rfl _ rfl) ?_; clear h; rintro _ w ⟨g, rfl, h⟩) | (refine wl_runs rfl (ex_slice1 h _ _ rfl _ rfl) ?_; clear h; rintro _ w ⟨g, rfl, h⟩) | (refine wl_runs rfl (ex_slice1i h _ _ rfl _ _ rfl) ?_; clear h; rintro _ w ⟨g, rfl, h⟩) | (refine wl_runs rfl (ex_slice1s h _ _ rfl _ _ _ rfl) ?_; clear h; rintro _ w ⟨g, rfl, h⟩) | (refine wl_runs rfl (ex_slice1b h _ _ rfl _ rfl) ?_; clear h; rintro _ w ⟨g, rfl, h⟩) | (refine wl_runs rfl (ex_slice1t h _ _ rfl _ rfl) ?_; clear h; rintro _ w ⟨g, rfl, h⟩) | (refine wl_runs rfl (ex_slice1p h _ _ rfl _ rfl) ?_; clear h; rintro _ w ⟨g, rfl, h⟩) | (refine wl_runs rfl (ex_slice1m h _ _ rfl _ rfl) ?_; clear h; rintro _ w ⟨g, rfl, h⟩) | (refine wl_reads rfl (ex_lit0 _ rfl) ?_))
      obtain ⟨tA, tc, rA, rc, a1, n1, c1', a2, n2, c2, cl⟩ := k2
      dsimp only [RSP, rsc] at h
      refine wp_region_K 14 (fun w' => St _ _ w' _) (by kernel_rfl) h.drew ?_; replace h := h.drew
      refine wpAnyK_pure 38 (v := ?_) (i := 0) (fuel := 17) rfl rfl (by kernel_rfl) (by kernel_rfl) (by kernel_rfl) (by decide) (fun _ _ _ h => h) (Or.inl ⟨by rfl, fun w _ => ?_⟩) ?_; rotate_left; (go_simp; with_reducible rfl); simp only [Act.put, List.setIfInBounds_toArray, List.set_cons_zero, List.set_cons_succ]
      refine wpAnyK_pure 39 (v := ?_) (i := 1) (fuel := 16) rfl rfl (by kernel_rfl) (by kernel_rfl) (by kernel_rfl) (by decide) (fun _ _ _ h => h) (Or.inl ⟨by rfl, fun w _ => ?_⟩) ?_; rotate_left; (go_simp; with_reducible rfl); simp only [Act.put, List.setIfInBounds_toArray, List.set_cons_zero, List.set_cons_succ]
      refine wpAnyK_pure 40 (v := ?_) (i := 2) (fuel := 15) rfl rfl (by kernel_rfl) (by kernel_rfl) (by kernel_rfl) (by decide) (fun _ _ _ h => h) (Or.inl ⟨by rfl, fun w _ => ?_⟩) ?_; rotate_left; (go_simp; with_reducible rfl); simp only [Act.put, List.setIfInBounds_toArray, List.set_cons_zero, List.set_cons_succ]
      refine wpAnyK_pure 41 (v := ?_) (i := 3) (fuel := 14) rfl rfl (by kernel_rfl) (by kernel_rfl) (by kernel_rfl) (by decide) (fun _ _ _ h => h) (Or.inl ⟨by rfl, fun w _ => ?_⟩) ?_; rotate_left; (go_simp; with_reducible rfl); simp only [Act.put, List.setIfInBounds_toArray, List.set_cons_zero, List.set_cons_succ]
      refine wpAnyK_load 42 (i := 4) (fuel := 13) rfl rfl (by kernel_rfl) (by kernel_rfl) (by kernel_rfl) (.inl (by kernel_rfl)) (by decide) (fun _ _ _ h => h) rfl (fun w h => ex_loadv h _ _ rfl _ _ rfl) ?_; simp only [Act.put, List.setIfInBounds_toArray, List.set_cons_zero, List.set_cons_succ]
      refine wpAnyK_pure 43 (v := ?_) (i := 5) (fuel := 12) rfl rfl (by kernel_rfl) (by kernel_rfl) (by kernel_rfl) (by decide) (fun _ _ _ h => h) (Or.inl ⟨by rfl, fun w _ => ?_⟩) ?_; rotate_left; (go_simp; with_reducible rfl); simp only [Act.put, List.setIfInBounds_toArray, List.set_cons_zero, List.set_cons_succ]
      refine wpAnyK_load 44 (i := 6) (fuel := 11) rfl rfl (by kernel_rfl) (by kernel_rfl) (by kernel_rfl) (.inl (by kernel_rfl)) (by decide) (fun _ _ _ h => h) rfl (fun w h => ex_loadv h _ _ rfl _ _ rfl) ?_; simp only [Act.put, List.setIfInBounds_toArray, List.set_cons_zero, List.set_cons_succ]
      refine wpAnyK_pure 45 (v := ?_) (i := 7) (fuel := 10) rfl rfl (by kernel_rfl) (by kernel_rfl) (by kernel_rfl) (by decide) (fun _ _ _ h => h) (Or.inl ⟨by rfl, fun w _ => ?_⟩) ?_; rotate_left; (go_simp; with_reducible rfl); simp only [Act.put, List.setIfInBounds_toArray, List.set_cons_zero, List.set_cons_succ]
      refine wpAnyK_pure 47 (v := ?_) (i := 9) (fuel := 9) rfl rfl (by kernel_rfl) (by kernel_rfl) (by kernel_rfl) (by decide) (fun _ _ _ h => h) (Or.inl ⟨by rfl, fun w _ => ?_⟩) ?_; rotate_left; (go_simp; with_reducible rfl); simp only [Act.put, List.setIfInBounds_toArray, List.set_cons_zero, List.set_cons_succ]
      refine wpAnyK_pure 49 (v := ?_) (i := 11) (fuel := 8) rfl rfl (by kernel_rfl) (by kernel_rfl) (by kernel_rfl) (by decide) (fun _ _ _ h => h) (Or.inl ⟨by rfl, fun w _ => ?_⟩) ?_; rotate_left; (go_simp; with_reducible rfl); simp only [Act.put, List.setIfInBounds_toArray, List.set_cons_zero, List.set_cons_succ]
      refine wpAnyK_one (i := 8) (fuel := 7) rfl (by kernel_rfl) rfl (fun K hK => ?_)
      refine op_runs (some 46) rfl (ex_append_nil h _ _ _ rfl rfl A n c rfl (h.sl A n c) (u8s_one _) (by simp [maxLen]; omega) (by omega)) ?_; clear h; rintro _ w ⟨A8, c8, rfl, h⟩; refine hK.out _ _ (fun _ => h.to) ?_; clear hK K
      try simp only [Act.put, List.setIfInBounds_toArray, List.set_cons_zero, List.set_cons_succ]
      refine wpAnyK_one (i := 10) (fuel := 6) rfl (by kernel_rfl) rfl (fun K hK => ?_)
      refine op_runs (some 48) rfl (ex_append_nil h _ _ _ rfl rfl B m d rfl (h.sl B m d) (u8s_one _) (by simp [maxLen]; omega) (by omega)) ?_; clear h; rintro _ w ⟨A10, c10, rfl, h⟩; refine hK.out _ _ (fun _ => h.to) ?_; clear hK K
      try simp only [Act.put, List.setIfInBounds_toArray, List.set_cons_zero, List.set_cons_succ]
      refine wpAnyK_load 50 (i := 12) (fuel := 5) rfl rfl (by kernel_rfl) (by kernel_rfl) (by kernel_rfl) (.inl (by kernel_rfl)) (by decide) (fun _ _ _ h => h) rfl (fun w h => ex_lit _ _ rfl [(0, .int .i64 (q : Int)), (1, .agg (u8s key.1).toArray), (2, .slice A8 n c8), (3, .slice A10 m c10), (4, .slice A1 N c1)] rfl) ?_; simp only [Act.put, List.setIfInBounds_toArray, List.set_cons_zero, List.set_cons_succ]
      refine wpAnyK_one (i := 13) (fuel := 4) rfl (by kernel_rfl) rfl (fun K hK => ?_)
      refine op_runs (some 51) rfl (ex_slice1 h _ _ rfl _ rfl) ?_; clear h; rintro _ w ⟨g13, rfl, h⟩; refine hK.out _ _ (fun _ => h.to) ?_; clear hK K
      try simp only [Act.put, List.setIfInBounds_toArray, List.set_cons_zero, List.set_cons_succ]
      refine wpAnyK_one (i := 14) (fuel := 3) rfl (by kernel_rfl) rfl (fun K hK => ?_)
      refine op_runs (some 52) rfl (ex_append h _ _ _ rfl rA rfl (some ⟨g13, 0, none⟩) 1 1 rfl (h.slBox g13) (Row.one) (by simp [maxLen]; omega) (by omega)) ?_; clear h; rintro _ w ⟨A14, c14, rfl, h⟩; refine hK.out _ _ (SJ.past (by kernel_rfl)) ?_; clear hK K
      try simp only [Act.put, List.setIfInBounds_toArray, List.set_cons_zero, List.set_cons_succ]
      refine wpAnyK_pure 53 (v := ?_) (i := 15) (fuel := 2) rfl rfl (by kernel_rfl) (by kernel_rfl) (by kernel_rfl) (by decide) (fun _ _ _ h => h) (Or.inl ⟨by rfl, fun w _ => ?_⟩) ?_; rotate_left; (go_simp; with_reducible rfl); simp only [Act.put, List.setIfInBounds_toArray, List.set_cons_zero, List.set_cons_succ]
      refine wpAnyK_pure 54 (v := ?_) (i := 16) (fuel := 1) rfl rfl (by kernel_rfl) (by kernel_rfl) (by kernel_rfl) (by decide) (fun _ _ _ h => h) (Or.inl ⟨by rfl, fun w _ => ?_⟩) ?_; rotate_left; (go_simp; with_reducible rfl); simp only [Act.put, List.setIfInBounds_toArray, List.set_cons_zero, List.set_cons_succ]
      refine wpAnyK_one (i := 17) (fuel := 0) rfl (by kernel_rfl) rfl (fun K hK => ?_)
      refine op_runs none rfl (ex_store1s h _ _ _ rfl _ _ rfl _ _ _ rfl) ?_; clear h; rintro _ w ⟨rfl, h⟩; refine hK.out _ _ (SJ.past (by kernel_rfl)) ?_; clear hK K
      try simp only [Act.put, List.setIfInBounds_toArray, List.set_cons_zero, List.set_cons_succ]
      refine wpAnyK_done (by kernel_rfl) ?_
      go_wp2_with (first | (refine wl_reads rfl (ex_loadv h _ _ rfl _ _ rfl) ?_) | (refine wl_runs rfl (ex_store1i h _ _ _ rfl _ _ rfl _ _ rfl) ?_; clear h; rintro _ w ⟨rfl, h⟩; try dsimp only [Act.put]) | (refine wl_runs rfl (ex_store1s h _ _ _ rfl _ _ rfl _ _ _ rfl) ?_; clear h; rintro _ w ⟨rfl, h⟩; try dsimp only [Act.put]) | (refine wl_runs rfl (ex_store1b h _ _ _ rfl _ _ rfl _ rfl) ?_; clear h; rintro _ w ⟨rfl, h⟩; try dsimp only [Act.put]) | (refine wl_runs rfl (ex_store1t h _ _ _ rfl _ _ rfl _ rfl) ?_; clear h; rintro _ w ⟨rfl, h⟩; try dsimp only [Act.put]) | (refine wl_runs rfl (ex_store1p h _ _ _ rfl _ _ rfl _ rfl) ?_; clear h; rintro _ w ⟨rfl, h⟩; try dsimp only [Act.put]) | (refine wl_runs rfl (ex_store1m h _ _ _ rfl _ _ rfl _ rfl) ?_; clear h; rintro _ w ⟨rfl, h⟩; try dsimp only [Act.put]) | (refine wl_runs rfl (ex_store h _ _ _ rfl _ _ rfl _ rfl) ?_; clear h; rintro _ w ⟨rfl, h⟩; try dsimp only [Act.put]) | (refine wl_runs rfl (ex_alloc h _ rfl) ?_; clear h; rintro _ w ⟨g, rfl, h⟩) | (refine wl_runs rfl (ex_box h _ _ rfl _ rfl) ?_; clear h; rintro _ w ⟨g, rfl, h⟩) | (refine wl_runs rfl (ex_box1i h _ _ rfl _ _ rfl) ?_; clear h; rintro _ w ⟨g, rfl, h⟩) | (refine wl_runs rfl (ex_box1s h _ _ rfl _ _ _ rfl) ?_; clear h; rintro _ w ⟨g, rfl, h⟩) | (refine wl_runs rfl (ex_box1b h _ _ rfl _ rfl) ?_; clear h; rintro _ w ⟨g, rfl, h⟩) | (refine wl_runs rfl (ex_box1t h _ _ rfl _ rfl) ?_; clear h; rintro _ w ⟨g, rfl, h⟩) | (refine wl_runs rfl (ex_box1p h _ _ rfl _ rfl) ?_; clear h; rintro _ w ⟨g, rfl, h⟩) | (refine wl_runs rfl (ex_box1m h _ _ rfl _ rfl) ?_; clear h; rintro _ w ⟨g, rfl, h⟩) | (refine wl_runs rfl (ex_slice1 h _ _ rfl _ rfl) ?_; clear h; rintro _ w ⟨g, rfl, h⟩) | (refine wl_runs rfl (ex_slice1i h _ _ rfl _ _ rfl) ?_; clear h; rintro _ w ⟨g, rfl, h⟩) | (refine wl_runs rfl (ex_slice1s h _ _ rfl _ _ _ rfl) ?_; clear h; rintro _ w ⟨g, rfl, h⟩) | (refine wl_runs rfl (ex_slice1b h _ _ rfl _ rfl) ?_; clear h; rintro _ w ⟨g, rfl, h⟩) | (refine wl_runs rfl (ex_slice1t h _ _ rfl _ rfl) ?_; clear h; rintro _ w ⟨g, rfl, h⟩) | (refine wl_runs rfl (ex_slice1p h _ _ rfl _ rfl) ?_; clear h; rintro _ w ⟨g, rfl, h⟩) | (refine wl_runs rfl (ex_slice1m h _ _ rfl _ rfl) ?_; clear h; rintro _ w ⟨g, rfl, h⟩) | (refine wl_reads rfl (ex_lit0 _ rfl) ?_))
      go_ret2
      have q0 := (h.release A8 (by omega)).release A10 (by omega)
      have q1 : St S w0 w (eSls (rows.flatMap rrp) :: eSl A8 n c8 1 (u8s lab) :: eSl A10 m c10 1 (u8s inp) :: eSl A1 N c1 1 (u8s T) :: eBlk g 40 (c_tabulariumref07_Suite (.int .i64 (mode : Int)) (.slice tA D.length tc) (.slice A14 (rows.length + 1) c14) (.slice a1 n1 c1') (.slice a2 n2 c2) (.bool cl)) :: eSl tA D.length tc 1 (u8s D) :: eOwn 92 36 A14 (rows.length + 1) c14 (rows.flatMap rrc ++ c_tabulariumref07_row (.int .i64 (q : Int)) (u8s key.1) (.slice A8 n c8) (.slice A10 m c10) (.slice A1 N c1)) :: F) := q0.to
      have q2 := ((q1.poolAdd).poolAdd).poolAdd
      have e1 : (rows ++ [(⟨⟨q, hq⟩, key, lab, inp, T, A8, c8, A10, c10, A1, c1⟩ : RRow)]).flatMap rrp = rows.flatMap rrp ++ [⟨A8, n, c8, 1, u8s lab⟩] ++ [⟨A10, m, c10, 1, u8s inp⟩] ++ [⟨A1, N, c1, 1, u8s T⟩] := by simp [rrp, Hnl.out, Hml.out, Htl.out]
      have e2 : (rows ++ [(⟨⟨q, hq⟩, key, lab, inp, T, A8, c8, A10, c10, A1, c1⟩ : RRow)]).flatMap rrc = rows.flatMap rrc ++ c_tabulariumref07_row (.int .i64 (q : Int)) (u8s key.1) (.slice A8 n c8) (.slice A10 m c10) (.slice A1 N c1) := by simp [rrc, Hnl.out, Hml.out, Htl.out]
      have e3 : (rows ++ [(⟨⟨q, hq⟩, key, lab, inp, T, A8, c8, A10, c10, A1, c1⟩ : RRow)]).length = rows.length + 1 := by simp
      have e4 : (rows ++ [(⟨⟨q, hq⟩, key, lab, inp, T, A8, c8, A10, c10, A1, c1⟩ : RRow)]).map rpr = rows.map rpr ++ [(q, key, lab, inp, T)] := by simp [rpr]
      have e5 : (⟨⟨q, hq⟩, key, lab, inp, T, A8, c8, A10, c10, A1, c1⟩ : RRow) ∈ (rows ++ [(⟨⟨q, hq⟩, key, lab, inp, T, A8, c8, A10, c10, A1, c1⟩ : RRow)]) := by simp
      rw [← e1, ← e2, ← e3] at q2
      obtain ⟨R, hR⟩ : ∃ R, rows ++ [(⟨⟨q, hq⟩, key, lab, inp, T, A8, c8, A10, c10, A1, c1⟩ : RRow)] = R := ⟨_, rfl⟩
      rw [hR] at q2 e4 e5
      have q3 : St S w0 w (RSP g ⟨tA, tc, A14, c14, a1, n1, c1', a2, n2, c2, cl⟩ ⟨mode, D, R⟩ F) := q2.to
      have q4 := q3.rsOut e5
      have q5 : St S w0 w (eSl A1 N c1 1 (u8s T) :: eRs g ⟨tA, tc, A14, c14, a1, n1, c1', a2, n2, c2, cl⟩ ⟨mode, D, R⟩ :: F) := by
        have e6 : T.length = N := Htl.out
        simpa only [e6] using q4
      refine ⟨A1, c1, _, _, rfl, ?_, q5⟩
      rw [← e4]
      rfl
    · have hM : ridealM q key lab inp N s.pr = ([], 60, s.pr) := by unfold ridealM; rw [hp]; exact if_neg hle
      have htk : takeM N s.tape = ([], s.tape) := takeM_no hle
      have hte : takeE N s.tape = 60 := takeE_no hle
      rw [hM]
      have Htk := Lib.hid htk
      have Hte := Lib.hid hte
      obtain ⟨mode, tape, rows⟩ := s
      simp only at hr Hf Htk Hte ⊢
      clear hM hf hnl hml htk hte hp hle
      go_enter Try.func78, Try.ntmps78
      go_wp2_with (first
        | (refine wl_runs rfl (ex_box h 29 _ rfl (u8s key.1) rfl) ?_; clear h; rintro _ w ⟨g8, rfl, h⟩)
        | (go_at_call 87; refine (rs_asked (g := g) (A := A) (n := n) (c := c) (lab := lab) (B := B) (m := m) (d := d) (inp := inp) h q hq key).mono ?_; rw [Hf.out]; simp only [rans]; clear h; rintro e w ⟨rfl, h⟩; replace h := h.rsShut)
        | (go_at_call 100; refine (rs_take (g := g) h N (by omega)).mono ?_; simp only [Htk.out, Hte.out]; clear h; rintro e w ⟨A1, c1, rfl, k2, h⟩)
        | (refine wl_reads rfl (ex_loadv h _ _ rfl _ _ rfl) ?_) | (refine wl_runs rfl (ex_store1i h _ _ _ rfl _ _ rfl _ _ rfl) ?_; clear h; rintro _ w ⟨rfl, h⟩; try dsimp only [Act.put]) | (refine wl_runs rfl (ex_store1s h _ _ _ rfl _ _ rfl _ _ _ rfl) ?_; clear h; rintro _ w ⟨rfl, h⟩; try dsimp only [Act.put]) | (refine wl_runs rfl (ex_store1b h _ _ _ rfl _ _ rfl _ rfl) ?_; clear h; rintro _ w ⟨rfl, h⟩; try dsimp only [Act.put]) | (refine wl_runs rfl (ex_store1t h _ _ _ rfl _ _ rfl _ rfl) ?_; clear h; rintro _ w ⟨rfl, h⟩; try dsimp only [Act.put]) | (refine wl_runs rfl (ex_store1p h _ _ _ rfl _ _ rfl _ rfl) ?_; clear h; rintro _ w ⟨rfl, h⟩; try dsimp only [Act.put]) | (refine wl_runs rfl (ex_store1m h _ _ _ rfl _ _ rfl _ rfl) ?_; clear h; rintro _ w ⟨rfl, h⟩; try dsimp only [Act.put]) | (refine wl_runs rfl (ex_store h _ _ _ rfl _ _ rfl _ rfl) ?_; clear h; rintro _ w ⟨rfl, h⟩; try dsimp only [Act.put]) | (refine wl_runs rfl (ex_alloc h _ rfl) ?_; clear h; rintro _ w ⟨g, rfl, h⟩) | (refine wl_runs rfl (ex_box h _ _ rfl _ rfl) ?_; clear h; rintro _ w ⟨g, rfl, h⟩) | (refine wl_runs rfl (ex_box1i h _ _ rfl _ _ rfl) ?_; clear h; rintro _ w ⟨g, rfl, h⟩) | (refine wl_runs rfl (ex_box1s h _ _ rfl _ _ _ rfl) ?_; clear h; rintro _ w ⟨g, rfl, h⟩) | (refine wl_runs rfl (ex_box1b h _ _ rfl _ rfl) ?_; clear h; rintro _ w ⟨g, rfl, h⟩) | (refine wl_runs rfl (ex_box1t h _ _ rfl _ rfl) ?_; clear h; rintro _ w ⟨g, rfl, h⟩) | (refine wl_runs rfl (ex_box1p h _ _ rfl _ rfl) ?_; clear h; rintro _ w ⟨g, rfl, h⟩) | (refine wl_runs rfl (ex_box1m h _ _ rfl _ rfl) ?_; clear h; rintro _ w ⟨g, rfl, h⟩) | (refine wl_runs rfl (ex_slice1 h _ _ rfl _ rfl) ?_; clear h; rintro _ w ⟨g, rfl, h⟩) | (refine wl_runs rfl (ex_slice1i h _ _ rfl _ _ rfl) ?_; clear h; rintro _ w ⟨g, rfl, h⟩) | (refine wl_runs rfl (ex_slice1s h _ _ rfl _ _ _ rfl) ?_; clear h; rintro _ w ⟨g, rfl, h⟩) | (refine wl_runs rfl (ex_slice1b h _ _ rfl _ rfl) ?_; clear h; rintro _ w ⟨g, rfl, h⟩) | (refine wl_runs rfl (ex_slice1t h _ _ rfl _ rfl) ?_; clear h; rintro _ w ⟨g, rfl, h⟩) | (refine wl_runs rfl (ex_slice1p h _ _ rfl _ rfl) ?_; clear h; rintro _ w ⟨g, rfl, h⟩) | (refine wl_runs rfl (ex_slice1m h _ _ rfl _ rfl) ?_; clear h; rintro _ w ⟨g, rfl, h⟩) | (refine wl_reads rfl (ex_lit0 _ rfl) ?_))
      go_ret2
      have q1 : St S w0 w (eSl none 0 0 1 [] :: eRs g k2 ⟨mode, tape, rows⟩ :: F) := ((h.nilRow 5 1).release none (by omega)).to
      exact ⟨none, 0, k2, ⟨mode, tape, rows⟩, rfl, rfl, q1⟩
end Go.Proofs.Ytcmgjoamfjijhaa
