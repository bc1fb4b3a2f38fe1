/- A commit as bytes: the code. -/
import Derived.Test.YtjnaiicgincndaaCCmtPutRef
import Derived.Test.YtjnaiicgincndaaCWr
namespace Go.Proofs.Ytjnaiicgincndaa
open Go.RowKit
set_option linter.unusedVariables false
set_option linter.unusedSimpArgs false

set_option maxRecDepth 100000 in
set_option maxHeartbeats 4000000 in
theorem cput_code {S : Nat → Prop} {w0 w : World} {L : List Ent} {A : Option Addr} {c : Nat} {m : Cmt} (h : St S w0 w L) [ka : HasSl L A m.pa.length c 32 (m.pa.flatMap idc)] [kf : HasFt L A m.pa.length] (hb : m.pa.length ≤ 100000) (ht : m.text.length ≤ 100000000) (ho : CmtOk m) :
    Calls Try.prog 18 #[.agg (cmtK A m.pa.length c m).toArray] w fun e w' => ∃ A' c', e = .returned (.tuple #[.slice A' (coutM m).length c', .int .i64 (coutC m)]) ∧ St S w0 w' (eOwn 5 1 A' (coutM m).length c' (u8s (coutM m)) :: L) := by
  have hlen := fun hm => cmtB_len (m := m) hm ho
  by_cases hok : mayC m = true
  · have e1 : coutM m = cmtB m := by rw [coutM, if_pos hok]
    have e2 : coutC m = 0 := by rw [coutC, if_pos hok]
    have hall := hlen hok
    have Hok := Lib.hid hok
    rw [e1, e2]
    obtain ⟨pa, root, key, seq, author, text⟩ := m
    have o1 := ho.1
    have o2 := ho.2.1
    have o3 := ho.2.2.1
    have o4 := ho.2.2.2
    simp only at ka kf hb ht o1 o2 o3 o4 ⊢
    obtain ⟨sq, rfl⟩ := Int.eq_ofNat_of_zero_le o1
    obtain ⟨au, rfl⟩ := Int.eq_ofNat_of_zero_le o3
    obtain ⟨Q1, hQ1⟩ : ∃ Q1, [] ++ nM pa.length ++ idsB pa = Q1 := ⟨_, rfl⟩
    obtain ⟨Q2, hQ2⟩ : ∃ Q2, Q1 ++ root.1 = Q2 := ⟨_, rfl⟩
    obtain ⟨Q3, hQ3⟩ : ∃ Q3, Q2 ++ key.1 = Q3 := ⟨_, rfl⟩
    obtain ⟨Q5, hQ5⟩ : ∃ Q5, Q3 ++ [sq, au].flatMap nM = Q5 := ⟨_, rfl⟩
    obtain ⟨Q6, hQ6⟩ : ∃ Q6, Q5 ++ nM text.length ++ text = Q6 := ⟨_, rfl⟩
    have hfin : cmtB ⟨pa, root, key, (sq : Int), (au : Int), text⟩ = Q6 := by rw [← hQ6, ← hQ5, ← hQ3, ← hQ2, ← hQ1]; simp [cmtB, List.append_assoc]
    rw [hfin] at hall ⊢
    have l6 : Q5.length + text.length ≤ 10000 := by have := hall; rw [← hQ6] at this; simp only [List.length_append] at this; omega
    have l3 : Q3.length ≤ 10000 := by have := l6; rw [← hQ5] at this; simp only [List.length_append] at this; omega
    have l2 : Q2.length ≤ 10000 := by have := l3; rw [← hQ3] at this; simp only [List.length_append] at this; omega
    have l1 : Q1.length ≤ 10000 := by have := l2; rw [← hQ2] at this; simp only [List.length_append] at this; omega
    have r2 := Lib.hid root.2
    have k2 := Lib.hid key.2
    have HQ1 := Lib.hid hQ1
    have HQ2 := Lib.hid hQ2
    have HQ3 := Lib.hid hQ3
    have HQ5 := Lib.hid hQ5
    have HQ6 := Lib.hid hQ6
    have rr : Row (u8s root.1) 32 := Row.u32 root
    have rk : Row (u8s key.1) 32 := Row.u32 key
    clear hfin e1 e2 hlen hok hQ1 hQ2 hQ3 hQ5 hQ6
    go_enter Try.func18, Try.ntmps18
    go_wp2_with (first
      | (refine wl_runs rfl (ex_box h 31 _ rfl (c_api_Commit _ _ _ _ _ _) rfl) ?_; clear h; rintro _ w ⟨g, rfl, h⟩)
      | (go_at_call 58; have hc := cmt_may (m := ⟨pa, root, key, (sq : Int), (au : Int), text⟩) (A := A) (c := c) h hb ht; rw [Hok.out] at hc; refine hc.mono ?_; clear hc h; rintro e w ⟨rfl, h⟩)
      | (refine wl_runs rfl (ex_box h 99 _ rfl _ rfl) ?_; clear h; rintro _ w ⟨gw, rfl, h⟩; replace h := St.newWr h gw)
      | (go_at_call 64; refine (ww_ids (x := pa) h (by simp) (by omega)).mono ?_; rw [HQ1.out]; clear h; rintro e w ⟨⟨v1, rfl⟩, F1, h⟩)
      | (have q := HQ2.out; clear HQ2; go_at_call 65; refine (ww_raw (l := root.1) h (by rw [r2.out]; omega)).mono ?_; rw [q]; clear h q; rintro e w ⟨⟨v2, rfl⟩, F2, h⟩)
      | (have q := HQ3.out; clear HQ3; go_at_call 65; refine (ww_raw (l := key.1) h (by rw [k2.out]; omega)).mono ?_; rw [q]; clear h q; rintro e w ⟨⟨v3, rfl⟩, F3, h⟩)
      | (refine wl_runs rfl (ex_sliceN h _ 2 _ rfl [(.int .u64 (sq : Int), [.int .u64 (sq : Int)]), (.int .u64 (au : Int), [.int .u64 (au : Int)])] rfl rfl (by simp [Value.cells]) (by decide) (by decide)) ?_; clear h; rintro _ w ⟨gq, rfl, h⟩; replace h : St _ _ w (eBlk gq 28 [.int .u64 (sq : Int), .int .u64 (au : Int)] :: _) := h)
      | (go_at_call 66; refine (ww_n (l := [sq, au]) h (h.sl (some ⟨gq, 0, none⟩) 2 2) (by simp; omega) (by simp; omega)).mono ?_; rw [HQ5.out]; clear h; rintro e w ⟨⟨v4, rfl⟩, F4, h⟩)
      | (refine wl_runs rfl (ex_bytes h _ _ _ rfl Try.underlying9 Try.underlying5 text rfl (by simp [maxLen]; omega)) ?_; clear h; rintro _ w ⟨gt, ct, rfl, h⟩)
      | (refine wl_runs rfl (ex_slice1s h _ _ rfl _ _ _ rfl) ?_; clear h; rintro _ w ⟨gs, rfl, h⟩)
      | (go_at_call 67; refine (ww_text (t := text) h (h.sl (some ⟨gs, 0, none⟩) 1 1) (by omega)).mono ?_; rw [HQ6.out]; clear h; rintro e w ⟨⟨v5, rfl⟩, F5, h⟩)
      | (go_at_call 68; refine (ww_bytes h (by omega)).mono ?_; clear h; rintro e w ⟨A6, c6, rfl, h⟩)
      | (refine wl_reads rfl (ex_loadv h _ _ rfl _ _ rfl) ?_) | (refine wl_runs rfl (ex_store1i h _ _ _ rfl _ _ rfl _ _ rfl) ?_; clear h; rintro _ w ⟨rfl, h⟩; try dsimp only [Act.put]) | (refine wl_runs rfl (ex_store1s h _ _ _ rfl _ _ rfl _ _ _ rfl) ?_; clear h; rintro _ w ⟨rfl, h⟩; try dsimp only [Act.put]) | (refine wl_runs rfl (ex_store1b h _ _ _ rfl _ _ rfl _ rfl) ?_; clear h; rintro _ w ⟨rfl, h⟩; try dsimp only [Act.put]) | (refine wl_runs rfl (ex_store1t h _ _ _ rfl _ _ rfl _ rfl) ?_; clear h; rintro _ w ⟨rfl, h⟩; try dsimp only [Act.put]) | (refine wl_runs rfl (ex_store1p h _ _ _ rfl _ _ rfl _ rfl) ?_; clear h; rintro _ w ⟨rfl, h⟩; try dsimp only [Act.put]) | (refine wl_runs rfl (ex_store1m h _ _ _ rfl _ _ rfl _ rfl) ?_; clear h; rintro _ w ⟨rfl, h⟩; try dsimp only [Act.put]) | (refine wl_runs rfl (ex_store h _ _ _ rfl _ _ rfl _ rfl) ?_; clear h; rintro _ w ⟨rfl, h⟩; try dsimp only [Act.put]) | (refine wl_runs rfl (ex_alloc h _ rfl) ?_; clear h; rintro _ w ⟨g, rfl, h⟩) | (refine wl_runs rfl (ex_box h _ _ rfl _ rfl) ?_; clear h; rintro _ w ⟨g, rfl, h⟩) | (refine wl_runs rfl (ex_box1i h _ _ rfl _ _ rfl) ?_; clear h; rintro _ w ⟨g, rfl, h⟩) | (refine wl_runs rfl (ex_box1s h _ _ rfl _ _ _ rfl) ?_; clear h; rintro _ w ⟨g, rfl, h⟩) | (refine wl_runs rfl (ex_box1b h _ _ rfl _ rfl) ?_; clear h; rintro _ w ⟨g, rfl, h⟩) | (refine wl_runs rfl (ex_box1t h _ _ rfl _ rfl) ?_; clear h; rintro _ w ⟨g, rfl, h⟩) | (refine wl_runs rfl (ex_box1p h _ _ rfl _ rfl) ?_; clear h; rintro _ w ⟨g, rfl, h⟩) | (refine wl_runs rfl (ex_box1m h _ _ rfl _ rfl) ?_; clear h; rintro _ w ⟨g, rfl, h⟩) | (refine wl_runs rfl (ex_slice1 h _ _ rfl _ rfl) ?_; clear h; rintro _ w ⟨g, rfl, h⟩) | (refine wl_runs rfl (ex_slice1i h _ _ rfl _ _ rfl) ?_; clear h; rintro _ w ⟨g, rfl, h⟩) | (refine wl_runs rfl (ex_slice1s h _ _ rfl _ _ _ rfl) ?_; clear h; rintro _ w ⟨g, rfl, h⟩) | (refine wl_runs rfl (ex_slice1b h _ _ rfl _ rfl) ?_; clear h; rintro _ w ⟨g, rfl, h⟩) | (refine wl_runs rfl (ex_slice1t h _ _ rfl _ rfl) ?_; clear h; rintro _ w ⟨g, rfl, h⟩) | (refine wl_runs rfl (ex_slice1p h _ _ rfl _ rfl) ?_; clear h; rintro _ w ⟨g, rfl, h⟩) | (refine wl_runs rfl (ex_slice1m h _ _ rfl _ rfl) ?_; clear h; rintro _ w ⟨g, rfl, h⟩) | (refine wl_reads rfl (ex_lit0 _ rfl) ?_))
    go_ret2
    exact ⟨A6, c6, rfl, h.to⟩
  · have e1 : coutM m = [] := by rw [coutM, if_neg hok]
    have e2 : coutC m = 120 := by rw [coutC, if_neg hok]
    have Hok := Lib.hid (Bool.eq_false_iff.2 hok)
    rw [e1, e2]
    clear hlen e1 e2 hok
    go_enter Try.func18, Try.ntmps18
    go_wp2_with (first
      | (refine wl_runs rfl (ex_box h 31 _ rfl (c_api_Commit _ _ _ _ _ _) rfl) ?_; clear h; rintro _ w ⟨g, rfl, h⟩)
      | (go_at_call 58; have hc := cmt_may (m := m) (A := A) (c := c) h hb ht; rw [Hok.out] at hc; refine hc.mono ?_; clear hc h; rintro e w ⟨rfl, h⟩)
      | (refine wl_reads rfl (ex_loadv h _ _ rfl _ _ rfl) ?_) | (refine wl_runs rfl (ex_store1i h _ _ _ rfl _ _ rfl _ _ rfl) ?_; clear h; rintro _ w ⟨rfl, h⟩; try dsimp only [Act.put]) | (refine wl_runs rfl (ex_store1s h _ _ _ rfl _ _ rfl _ _ _ rfl) ?_; clear h; rintro _ w ⟨rfl, h⟩; try dsimp only [Act.put]) | (refine wl_runs rfl (ex_store1b h _ _ _ rfl _ _ rfl _ rfl) ?_; clear h; rintro _ w ⟨rfl, h⟩; try dsimp only [Act.put]) | (refine wl_runs rfl (ex_store1t h _ _ _ rfl _ _ rfl _ rfl) ?_; clear h; rintro _ w ⟨rfl, h⟩; try dsimp only [Act.put]) | (refine wl_runs rfl (ex_store1p h _ _ _ rfl _ _ rfl _ rfl) ?_; clear h; rintro _ w ⟨rfl, h⟩; try dsimp only [Act.put]) | (refine wl_runs rfl (ex_store1m h _ _ _ rfl _ _ rfl _ rfl) ?_; clear h; rintro _ w ⟨rfl, h⟩; try dsimp only [Act.put]) | (refine wl_runs rfl (ex_store h _ _ _ rfl _ _ rfl _ rfl) ?_; clear h; rintro _ w ⟨rfl, h⟩; try dsimp only [Act.put]) | (refine wl_runs rfl (ex_alloc h _ rfl) ?_; clear h; rintro _ w ⟨g, rfl, h⟩) | (refine wl_runs rfl (ex_box h _ _ rfl _ rfl) ?_; clear h; rintro _ w ⟨g, rfl, h⟩) | (refine wl_runs rfl (ex_box1i h _ _ rfl _ _ rfl) ?_; clear h; rintro _ w ⟨g, rfl, h⟩) | (refine wl_runs rfl (ex_box1s h _ _ rfl _ _ _ rfl) ?_; clear h; rintro _ w ⟨g, rfl, h⟩) | (refine wl_runs rfl (ex_box1b h _ _ rfl _ rfl) ?_; clear h; rintro _ w ⟨g, rfl, h⟩) | (refine wl_runs rfl (ex_box1t h _ _ rfl _ rfl) ?_; clear h; rintro _ w ⟨g, rfl, h⟩) | (refine wl_runs rfl (ex_box1p h _ _ rfl _ rfl) ?_; clear h; rintro _ w ⟨g, rfl, h⟩) | (refine wl_runs rfl (ex_box1m h _ _ rfl _ rfl) ?_; clear h; rintro _ w ⟨g, rfl, h⟩) | (refine wl_runs rfl (ex_slice1 h _ _ rfl _ rfl) ?_; clear h; rintro _ w ⟨g, rfl, h⟩) | (refine wl_runs rfl (ex_slice1i h _ _ rfl _ _ rfl) ?_; clear h; rintro _ w ⟨g, rfl, h⟩) | (refine wl_runs rfl (ex_slice1s h _ _ rfl _ _ _ rfl) ?_; clear h; rintro _ w ⟨g, rfl, h⟩) | (refine wl_runs rfl (ex_slice1b h _ _ rfl _ rfl) ?_; clear h; rintro _ w ⟨g, rfl, h⟩) | (refine wl_runs rfl (ex_slice1t h _ _ rfl _ rfl) ?_; clear h; rintro _ w ⟨g, rfl, h⟩) | (refine wl_runs rfl (ex_slice1p h _ _ rfl _ rfl) ?_; clear h; rintro _ w ⟨g, rfl, h⟩) | (refine wl_runs rfl (ex_slice1m h _ _ rfl _ rfl) ?_; clear h; rintro _ w ⟨g, rfl, h⟩) | (refine wl_reads rfl (ex_lit0 _ rfl) ?_))
    go_ret2
    have h6 : St S w0 _ (eOwn 5 1 none 0 0 [] :: L) := (h.nilRow 5 1).to
    exact ⟨none, 0, rfl, h6⟩
end Go.Proofs.Ytjnaiicgincndaa
