/- The reference's sum of a text. -/
import Derived.Test.YtcmgjoamfjijhaaCBlocksRef
import Derived.Test.YtcmgjoamfjijhaaCComprRef
import Derived.Test.YtcmgjoamfjijhaaCRun
namespace Go.Proofs.Ytcmgjoamfjijhaa
open Go.RowKit
set_option linter.unusedVariables false
set_option linter.unusedSimpArgs false

instance (pre : List B64) : Row (w32s (foldM pre)) 8 := Row.mk' (by rw [w32s_length, foldM_length]) (w32s_one _) (by omega)
theorem u8s_setl (l : List UInt8) (i : Nat) (x : UInt8) : (u8s l).set i (.int .u8 (x.toNat : Int)) = u8s (l.set i x) := by simp [u8s, u8v, List.map_set]

set_option maxRecDepth 100000 in
set_option maxHeartbeats 1000000 in
theorem sum_ref {w0 : World} {l : List UInt8} {A : Option Addr} {n c : Nat} (hl : Sl w0 A n c 1 (u8s l)) (hm : n ≤ 10000000) :
    Calls Try.prog 86 #[.slice A n c] w0 fun e w' => e = .returned (.agg (u8s (sumM l)).toArray) ∧ Step (fun _ => False) w0 w' := by
  have h := St.read0 hl (by omega)
  clear hl
  have tr := True.intro
  go_enter Try.func86, Try.ntmps86
  go_wp2_with (first
    | (clear tr; refine wl_runs rfl (ex_alloc h 49 rfl) ?_; clear h; rintro _ w ⟨gr, rfl, h⟩)
    | (refine wl_runs rfl (ex_alloc h 131 rfl) ?_; clear h; rintro _ w ⟨gh, rfl, h⟩)
    | (refine wl_reads rfl (ex_build _ _ rfl (w32s firstM).toArray (by kernel_rfl)) ?_)
    | (go_at_call 108; refine (blocks_ref (h.sl A n c) hm).mono ?_; rintro e w ⟨B, d, rfl, h1⟩; replace h := h.frame01 h1; clear h1)
    | (refine wl_reads rfl (ex_loadv h _ _ rfl _ _ rfl) ?_) | (refine wl_runs rfl (ex_store1i h _ _ _ rfl _ _ rfl _ _ rfl) ?_; clear h; rintro _ w ⟨rfl, h⟩; try dsimp only [Act.put]) | (refine wl_runs rfl (ex_store1s h _ _ _ rfl _ _ rfl _ _ _ rfl) ?_; clear h; rintro _ w ⟨rfl, h⟩; try dsimp only [Act.put]) | (refine wl_runs rfl (ex_store1b h _ _ _ rfl _ _ rfl _ rfl) ?_; clear h; rintro _ w ⟨rfl, h⟩; try dsimp only [Act.put]) | (refine wl_runs rfl (ex_store1t h _ _ _ rfl _ _ rfl _ rfl) ?_; clear h; rintro _ w ⟨rfl, h⟩; try dsimp only [Act.put]) | (refine wl_runs rfl (ex_store1p h _ _ _ rfl _ _ rfl _ rfl) ?_; clear h; rintro _ w ⟨rfl, h⟩; try dsimp only [Act.put]) | (refine wl_runs rfl (ex_store1m h _ _ _ rfl _ _ rfl _ rfl) ?_; clear h; rintro _ w ⟨rfl, h⟩; try dsimp only [Act.put]) | (refine wl_runs rfl (ex_store h _ _ _ rfl _ _ rfl _ rfl) ?_; clear h; rintro _ w ⟨rfl, h⟩; try dsimp only [Act.put]) | (refine wl_runs rfl (ex_alloc h _ rfl) ?_; clear h; rintro _ w ⟨g, rfl, h⟩) | (refine wl_runs rfl (ex_box h _ _ rfl _ rfl) ?_; clear h; rintro _ w ⟨g, rfl, h⟩) | (refine wl_runs rfl (ex_box1i h _ _ rfl _ _ rfl) ?_; clear h; rintro _ w ⟨g, rfl, h⟩) | (refine wl_runs rfl (ex_box1s h _ _ rfl _ _ _ rfl) ?_; clear h; rintro _ w ⟨g, rfl, h⟩) | (refine wl_runs rfl (ex_box1b h _ _ rfl _ rfl) ?_; clear h; rintro _ w ⟨g, rfl, h⟩) | (refine wl_runs rfl (ex_box1t h _ _ rfl _ rfl) ?_; clear h; rintro _ w ⟨g, rfl, h⟩) | (refine wl_runs rfl (ex_box1p h _ _ rfl _ rfl) ?_; clear h; rintro _ w ⟨g, rfl, h⟩) | (refine wl_runs rfl (ex_box1m h _ _ rfl _ rfl) ?_; clear h; rintro _ w ⟨g, rfl, h⟩) | (refine wl_runs rfl (ex_slice1 h _ _ rfl _ rfl) ?_; clear h; rintro _ w ⟨g, rfl, h⟩) | (refine wl_runs rfl (ex_slice1i h _ _ rfl _ _ rfl) ?_; clear h; rintro _ w ⟨g, rfl, h⟩) | (refine wl_runs rfl (ex_slice1s h _ _ rfl _ _ _ rfl) ?_; clear h; rintro _ w ⟨g, rfl, h⟩) | (refine wl_runs rfl (ex_slice1b h _ _ rfl _ rfl) ?_; clear h; rintro _ w ⟨g, rfl, h⟩) | (refine wl_runs rfl (ex_slice1t h _ _ rfl _ rfl) ?_; clear h; rintro _ w ⟨g, rfl, h⟩) | (refine wl_runs rfl (ex_slice1p h _ _ rfl _ rfl) ?_; clear h; rintro _ w ⟨g, rfl, h⟩) | (refine wl_runs rfl (ex_slice1m h _ _ rfl _ rfl) ?_; clear h; rintro _ w ⟨g, rfl, h⟩) | (refine wl_reads rfl (ex_lit0 _ rfl) ?_))
  obtain ⟨N, hN⟩ : ∃ N, (blocksM l).length = N := ⟨_, rfl⟩
  have hNb : N ≤ 20000000 := by
    have h1 := blocksM_length l
    have h2 := fullM_bound l
    have h3 := (h.sl A n c).n_eq
    omega
  rw [hN] at h
  rw [hN]
  have HN := Lib.hid hN
  clear hN
  go_loopw [12] (fun x wr => ∃ j : Nat, x = .int .i64 (j : Int) ∧ j ≤ N ∧ St (fun _ => False) w0 wr [eOwn 120 64 B N d ((blocksM l).flatMap blkc), eBlk gh 131 (w32s (foldM ((blocksM l).take j))), eBlk gr 49 (u8s (zeros 32))]) (fun x _ => N - (intOf x).toNat)
  case atStart =>
    have h2 : St (fun _ => False) w0 w [eOwn 120 64 B N d ((blocksM l).flatMap blkc), eBlk gh 131 (w32s firstM), eBlk gr 49 (u8s (zeros 32))] := h.to
    exact ⟨0, rfl, by omega, h2⟩
  case round =>
    clear h
    obtain ⟨j, rfl, hj, h⟩ := hrel
    by_cases hlt : j < N
    · have hjl : j < (blocksM l).length := by have := HN.out; omega
      obtain ⟨b, off, rfl, hc⟩ := (h.sl B N d).elem (f := blkc) blkc_length hjl (by omega)
      have hx : (blkc (blocksM l)[j]).length = 64 := blkc_length _
      have hxl := (blocksM l)[j].2
      have hsn : foldM ((blocksM l).take (j + 1)) = compM (foldM ((blocksM l).take j)) (blocksM l)[j].1 := by rw [List.take_succ_eq_append_getElem hjl, foldM_snoc]
      have Hsn := Lib.hid hsn
      have Hxl := Lib.hid hxl
      have Hx := Lib.hid hx
      change Cells wr b (off + j * 64) (u8s (blocksM l)[j].1) at hc
      change Hid ((u8s (blocksM l)[j].1).length = 64) at Hx
      generalize (blocksM l)[j] = x at *
      have f1 : (j : Int) < (N : Int) := by omega
      clear hsn hxl hx
      go_wp2_with (first
        | (refine wl_reads rfl (ex_load_at _ _ rfl b (off + j * 64) rfl (u8s x.1) Hx.out hc) ?_)
        | (go_at_call 109; refine (compr_ref Hxl.out (foldM_length _)).mono ?_; rintro e w ⟨rfl, hs⟩; replace h := h.quiet hs; clear hs)
        | (refine wl_reads rfl (ex_loadv h _ _ rfl _ _ rfl) ?_) | (refine wl_runs rfl (ex_store1i h _ _ _ rfl _ _ rfl _ _ rfl) ?_; clear h; rintro _ w ⟨rfl, h⟩; try dsimp only [Act.put]) | (refine wl_runs rfl (ex_store1s h _ _ _ rfl _ _ rfl _ _ _ rfl) ?_; clear h; rintro _ w ⟨rfl, h⟩; try dsimp only [Act.put]) | (refine wl_runs rfl (ex_store1b h _ _ _ rfl _ _ rfl _ rfl) ?_; clear h; rintro _ w ⟨rfl, h⟩; try dsimp only [Act.put]) | (refine wl_runs rfl (ex_store1t h _ _ _ rfl _ _ rfl _ rfl) ?_; clear h; rintro _ w ⟨rfl, h⟩; try dsimp only [Act.put]) | (refine wl_runs rfl (ex_store1p h _ _ _ rfl _ _ rfl _ rfl) ?_; clear h; rintro _ w ⟨rfl, h⟩; try dsimp only [Act.put]) | (refine wl_runs rfl (ex_store1m h _ _ _ rfl _ _ rfl _ rfl) ?_; clear h; rintro _ w ⟨rfl, h⟩; try dsimp only [Act.put]) | (refine wl_runs rfl (ex_store h _ _ _ rfl _ _ rfl _ rfl) ?_; clear h; rintro _ w ⟨rfl, h⟩; try dsimp only [Act.put]) | (refine wl_runs rfl (ex_alloc h _ rfl) ?_; clear h; rintro _ w ⟨g, rfl, h⟩) | (refine wl_runs rfl (ex_box h _ _ rfl _ rfl) ?_; clear h; rintro _ w ⟨g, rfl, h⟩) | (refine wl_runs rfl (ex_box1i h _ _ rfl _ _ rfl) ?_; clear h; rintro _ w ⟨g, rfl, h⟩) | (refine wl_runs rfl (ex_box1s h _ _ rfl _ _ _ rfl) ?_; clear h; rintro _ w ⟨g, rfl, h⟩) | (refine wl_runs rfl (ex_box1b h _ _ rfl _ rfl) ?_; clear h; rintro _ w ⟨g, rfl, h⟩) | (refine wl_runs rfl (ex_box1t h _ _ rfl _ rfl) ?_; clear h; rintro _ w ⟨g, rfl, h⟩) | (refine wl_runs rfl (ex_box1p h _ _ rfl _ rfl) ?_; clear h; rintro _ w ⟨g, rfl, h⟩) | (refine wl_runs rfl (ex_box1m h _ _ rfl _ rfl) ?_; clear h; rintro _ w ⟨g, rfl, h⟩) | (refine wl_runs rfl (ex_slice1 h _ _ rfl _ rfl) ?_; clear h; rintro _ w ⟨g, rfl, h⟩) | (refine wl_runs rfl (ex_slice1i h _ _ rfl _ _ rfl) ?_; clear h; rintro _ w ⟨g, rfl, h⟩) | (refine wl_runs rfl (ex_slice1s h _ _ rfl _ _ _ rfl) ?_; clear h; rintro _ w ⟨g, rfl, h⟩) | (refine wl_runs rfl (ex_slice1b h _ _ rfl _ rfl) ?_; clear h; rintro _ w ⟨g, rfl, h⟩) | (refine wl_runs rfl (ex_slice1t h _ _ rfl _ rfl) ?_; clear h; rintro _ w ⟨g, rfl, h⟩) | (refine wl_runs rfl (ex_slice1p h _ _ rfl _ rfl) ?_; clear h; rintro _ w ⟨g, rfl, h⟩) | (refine wl_runs rfl (ex_slice1m h _ _ rfl _ rfl) ?_; clear h; rintro _ w ⟨g, rfl, h⟩) | (refine wl_reads rfl (ex_lit0 _ rfl) ?_))
      refine ⟨⟨j + 1, by go_num, by omega, ?_⟩, by simp only [intOf]; omega⟩
      rw [Hsn.out]
      exact h.to
    · have hjN : j = N := by omega
      have hfold : foldM ((blocksM l).take j) = foldM (blocksM l) := by rw [List.take_of_length_le (by have := HN.out; omega)]
      rw [hfold] at h
      have f1 : ¬ (j : Int) < (N : Int) := by omega
      clear hfold hjN
      have hT : sumM l = toldM (foldM (blocksM l)) := rfl
      have hTl := foldM_length (blocksM l)
      generalize foldM (blocksM l) = H at *
      have HT := Lib.hid hT
      have HTl := Lib.hid hTl
      clear hT hTl
      go_wp2_with (first
        | (refine wl_runs rfl (ex_alloc h 49 rfl) ?_; clear h; rintro _ w ⟨go, rfl, h⟩)
        | (refine wl_reads rfl (ex_loadv h _ _ rfl _ _ rfl) ?_) | (refine wl_runs rfl (ex_store1i h _ _ _ rfl _ _ rfl _ _ rfl) ?_; clear h; rintro _ w ⟨rfl, h⟩; try dsimp only [Act.put]) | (refine wl_runs rfl (ex_store1s h _ _ _ rfl _ _ rfl _ _ _ rfl) ?_; clear h; rintro _ w ⟨rfl, h⟩; try dsimp only [Act.put]) | (refine wl_runs rfl (ex_store1b h _ _ _ rfl _ _ rfl _ rfl) ?_; clear h; rintro _ w ⟨rfl, h⟩; try dsimp only [Act.put]) | (refine wl_runs rfl (ex_store1t h _ _ _ rfl _ _ rfl _ rfl) ?_; clear h; rintro _ w ⟨rfl, h⟩; try dsimp only [Act.put]) | (refine wl_runs rfl (ex_store1p h _ _ _ rfl _ _ rfl _ rfl) ?_; clear h; rintro _ w ⟨rfl, h⟩; try dsimp only [Act.put]) | (refine wl_runs rfl (ex_store1m h _ _ _ rfl _ _ rfl _ rfl) ?_; clear h; rintro _ w ⟨rfl, h⟩; try dsimp only [Act.put]) | (refine wl_runs rfl (ex_store h _ _ _ rfl _ _ rfl _ rfl) ?_; clear h; rintro _ w ⟨rfl, h⟩; try dsimp only [Act.put]) | (refine wl_runs rfl (ex_alloc h _ rfl) ?_; clear h; rintro _ w ⟨g, rfl, h⟩) | (refine wl_runs rfl (ex_box h _ _ rfl _ rfl) ?_; clear h; rintro _ w ⟨g, rfl, h⟩) | (refine wl_runs rfl (ex_box1i h _ _ rfl _ _ rfl) ?_; clear h; rintro _ w ⟨g, rfl, h⟩) | (refine wl_runs rfl (ex_box1s h _ _ rfl _ _ _ rfl) ?_; clear h; rintro _ w ⟨g, rfl, h⟩) | (refine wl_runs rfl (ex_box1b h _ _ rfl _ rfl) ?_; clear h; rintro _ w ⟨g, rfl, h⟩) | (refine wl_runs rfl (ex_box1t h _ _ rfl _ rfl) ?_; clear h; rintro _ w ⟨g, rfl, h⟩) | (refine wl_runs rfl (ex_box1p h _ _ rfl _ rfl) ?_; clear h; rintro _ w ⟨g, rfl, h⟩) | (refine wl_runs rfl (ex_box1m h _ _ rfl _ rfl) ?_; clear h; rintro _ w ⟨g, rfl, h⟩) | (refine wl_runs rfl (ex_slice1 h _ _ rfl _ rfl) ?_; clear h; rintro _ w ⟨g, rfl, h⟩) | (refine wl_runs rfl (ex_slice1i h _ _ rfl _ _ rfl) ?_; clear h; rintro _ w ⟨g, rfl, h⟩) | (refine wl_runs rfl (ex_slice1s h _ _ rfl _ _ _ rfl) ?_; clear h; rintro _ w ⟨g, rfl, h⟩) | (refine wl_runs rfl (ex_slice1b h _ _ rfl _ rfl) ?_; clear h; rintro _ w ⟨g, rfl, h⟩) | (refine wl_runs rfl (ex_slice1t h _ _ rfl _ rfl) ?_; clear h; rintro _ w ⟨g, rfl, h⟩) | (refine wl_runs rfl (ex_slice1p h _ _ rfl _ rfl) ?_; clear h; rintro _ w ⟨g, rfl, h⟩) | (refine wl_runs rfl (ex_slice1m h _ _ rfl _ rfl) ?_; clear h; rintro _ w ⟨g, rfl, h⟩) | (refine wl_reads rfl (ex_lit0 _ rfl) ?_))
      have htl := toldM_length H
      have htv : ∀ j, j < 32 → (toldM H)[j]? = some (toldB H j) := fun j hj => by simp [toldM, hj]
      generalize hTT : toldM H = T at *
      have HTT := Lib.hid hTT
      have Htl := Lib.hid htl
      have Htv := Lib.hid htv
      clear hTT htl htv f1
      go_loopw [20] (fun x wr => ∃ i : Nat, x = .int .i64 (i : Int) ∧ i ≤ 32 ∧ St (fun _ => False) w0 wr [eBlk go 49 (u8s (upto T 32 i)), eBlk gh 131 (w32s H), eBlk gr 49 (u8s (zeros 32))]) (fun x _ => 32 - (intOf x).toNat)
      case atStart => exact ⟨0, rfl, by omega, by rw [upto_zero]; exact h.to⟩
      case round =>
        clear h
        obtain ⟨i, rfl, hi, h⟩ := hrel
        by_cases hlt : i < 32
        · have hiH : i / 4 < H.length := by have := HTl.out; omega
          have hc : wr.cell? ⟨gh, i / 4, none⟩ = some (.int .u32 ((H.getD (i / 4) 0).toNat : Int)) := h.cellAt gh (i / 4) (by rw [w32s_get H _ hiH, List.getD_eq_getElem?_getD, List.getElem?_eq_getElem hiH]; rfl)
          have hval : ((((H.getD (i / 4) 0).toNat : Nat) : Int) / 2 ^ (24 - 8 * (i % 4))) % 256 = ((toldB H i).toNat : Int) := by
            rw [toldB, UInt8.toNat_ofNat', Int.natCast_emod, Int.natCast_ediv, Int.natCast_pow]
            rfl
          have hset := upto_set T Htl.out hlt
          have hTe : T[i]'(by rw [Htl.out]; exact hlt) = toldB H i := (List.getElem?_eq_some_iff.1 (Htv.out i hlt)).2
          rw [hTe] at hset
          have hlen : i < (u8s (upto T 32 i)).length := by rw [u8s_length, upto_length T Htl.out hi]; exact hlt
          have g0 : (0 : Int) ≤ (i : Int) / 4 := by omega
          have g1 : (i : Int) / 4 < 8 := by omega
          have g2 : ((i : Int) / 4).toNat = i / 4 := by omega
          have f0 : (0 : Int) ≤ 24 - 8 * ((i : Int) % 4) := by omega
          have f1 : (24 - 8 * ((i : Int) % 4)).toNat = 24 - 8 * (i % 4) := by omega
          have f2 : min (24 - 8 * (i % 4)) 32 = 24 - 8 * (i % 4) := by omega
          have f4 : IntKind.i64.wrap (24 - 8 * ((i : Int) % 4)) = 24 - 8 * ((i : Int) % 4) := wrap_small _ (by omega) (by omega)
          have fa : IntKind.i64.wrap (8 * ((i : Int) % 4)) = 8 * ((i : Int) % 4) := wrap_small _ (by omega) (by omega)
          have f6 : (i : Int) < 32 := by omega
          generalize H.getD (i / 4) 0 = x at *
          generalize toldB H i = c at *
          have Hset := Lib.hid hset
          have Hval := Lib.hid hval
          clear hset hval hTe
          go_wp2_with (first
            | (refine wl_reads rfl (ex_load1_at _ _ rfl gh (i / 4) rfl _ hc) ?_)
            | (refine wl_runs rfl (ex_store1_at h _ _ _ rfl go i rfl (.int .u8 ((x.toNat : Int) / 2 ^ (24 - 8 * (i % 4)) % 256)) rfl hlen) ?_; clear h; rintro _ w ⟨rfl, h⟩; try dsimp only [Act.put]))
          rw [Hval.out, u8s_setl, Hset.out] at h
          exact ⟨⟨i + 1, by go_num, by omega, h⟩, by simp only [intOf]; omega⟩
        · have : i = 32 := by omega
          subst this
          rw [upto_all T Htl.out] at h
          have hrow : Row (u8s T) 32 := Row.mk' (by rw [u8s_length, Htl.out]) (u8s_one _) (by omega)
          go_wp2_with (first
            | (refine wl_reads rfl (ex_loadv h _ _ rfl _ _ rfl) ?_) | (refine wl_runs rfl (ex_store1i h _ _ _ rfl _ _ rfl _ _ rfl) ?_; clear h; rintro _ w ⟨rfl, h⟩; try dsimp only [Act.put]) | (refine wl_runs rfl (ex_store1s h _ _ _ rfl _ _ rfl _ _ _ rfl) ?_; clear h; rintro _ w ⟨rfl, h⟩; try dsimp only [Act.put]) | (refine wl_runs rfl (ex_store1b h _ _ _ rfl _ _ rfl _ rfl) ?_; clear h; rintro _ w ⟨rfl, h⟩; try dsimp only [Act.put]) | (refine wl_runs rfl (ex_store1t h _ _ _ rfl _ _ rfl _ rfl) ?_; clear h; rintro _ w ⟨rfl, h⟩; try dsimp only [Act.put]) | (refine wl_runs rfl (ex_store1p h _ _ _ rfl _ _ rfl _ rfl) ?_; clear h; rintro _ w ⟨rfl, h⟩; try dsimp only [Act.put]) | (refine wl_runs rfl (ex_store1m h _ _ _ rfl _ _ rfl _ rfl) ?_; clear h; rintro _ w ⟨rfl, h⟩; try dsimp only [Act.put]) | (refine wl_runs rfl (ex_store h _ _ _ rfl _ _ rfl _ rfl) ?_; clear h; rintro _ w ⟨rfl, h⟩; try dsimp only [Act.put]) | (refine wl_runs rfl (ex_alloc h _ rfl) ?_; clear h; rintro _ w ⟨g, rfl, h⟩) | (refine wl_runs rfl (ex_box h _ _ rfl _ rfl) ?_; clear h; rintro _ w ⟨g, rfl, h⟩) | (refine wl_runs rfl (ex_box1i h _ _ rfl _ _ rfl) ?_; clear h; rintro _ w ⟨g, rfl, h⟩) | (refine wl_runs rfl (ex_box1s h _ _ rfl _ _ _ rfl) ?_; clear h; rintro _ w ⟨g, rfl, h⟩) | (refine wl_runs rfl (ex_box1b h _ _ rfl _ rfl) ?_; clear h; rintro _ w ⟨g, rfl, h⟩) | (refine wl_runs rfl (ex_box1t h _ _ rfl _ rfl) ?_; clear h; rintro _ w ⟨g, rfl, h⟩) | (refine wl_runs rfl (ex_box1p h _ _ rfl _ rfl) ?_; clear h; rintro _ w ⟨g, rfl, h⟩) | (refine wl_runs rfl (ex_box1m h _ _ rfl _ rfl) ?_; clear h; rintro _ w ⟨g, rfl, h⟩) | (refine wl_runs rfl (ex_slice1 h _ _ rfl _ rfl) ?_; clear h; rintro _ w ⟨g, rfl, h⟩) | (refine wl_runs rfl (ex_slice1i h _ _ rfl _ _ rfl) ?_; clear h; rintro _ w ⟨g, rfl, h⟩) | (refine wl_runs rfl (ex_slice1s h _ _ rfl _ _ _ rfl) ?_; clear h; rintro _ w ⟨g, rfl, h⟩) | (refine wl_runs rfl (ex_slice1b h _ _ rfl _ rfl) ?_; clear h; rintro _ w ⟨g, rfl, h⟩) | (refine wl_runs rfl (ex_slice1t h _ _ rfl _ rfl) ?_; clear h; rintro _ w ⟨g, rfl, h⟩) | (refine wl_runs rfl (ex_slice1p h _ _ rfl _ rfl) ?_; clear h; rintro _ w ⟨g, rfl, h⟩) | (refine wl_runs rfl (ex_slice1m h _ _ rfl _ rfl) ?_; clear h; rintro _ w ⟨g, rfl, h⟩) | (refine wl_reads rfl (ex_lit0 _ rfl) ?_))
          refine bodyPost_ret (res_cell1 rfl rfl (h.loadVar 49 gr 0)) rfl ⟨?_, h.step⟩
          rw [HT.out]
end Go.Proofs.Ytcmgjoamfjijhaa
