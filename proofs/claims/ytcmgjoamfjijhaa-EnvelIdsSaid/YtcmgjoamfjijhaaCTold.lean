/- Words as bytes. -/
import Derived.Test.YtcmgjoamfjijhaaCTable
namespace Go.Proofs.Ytcmgjoamfjijhaa
open Go.RowKit

def toldB (h : List UInt32) (j : Nat) : UInt8 := UInt8.ofNat ((h.getD (j / 4) 0).toNat / 2 ^ (24 - 8 * (j % 4)))
def toldM (h : List UInt32) : List UInt8 := (List.range 32).map (toldB h)
theorem toldM_length (h : List UInt32) : (toldM h).length = 32 := by simp [toldM]
/-- The first j of bytes, then zeros. -/
def upto (t : List UInt8) (n j : Nat) : List UInt8 := t.take j ++ zeros (n - j)
theorem upto_zero (t : List UInt8) (n : Nat) : upto t n 0 = zeros n := by simp [upto]
theorem upto_all (t : List UInt8) {n : Nat} (h : t.length = n) : upto t n n = t := by
  rw [upto, List.take_of_length_le (by omega)]
  simp [zeros]
theorem upto_length (t : List UInt8) {n j : Nat} (h : t.length = n) (hj : j ≤ n) : (upto t n j).length = n := by simp [upto, zeros, h]; omega
theorem upto_set (t : List UInt8) {n j : Nat} (h : t.length = n) (hj : j < n) : (upto t n j).set j (t[j]'(by omega)) = upto t n (j + 1) := by
  have hz : zeros (n - j) = 0 :: zeros (n - (j + 1)) := by
    rw [zeros, show n - j = (n - (j + 1)) + 1 by omega, List.replicate_succ]
    rfl
  have hl : (t.take j).length = j := by rw [List.length_take]; omega
  rw [upto, hz, List.set_append_right j _ (by omega), hl, Nat.sub_self, List.set_cons_zero, upto, List.take_succ_eq_append_getElem (by omega), List.append_assoc]
  rfl
theorem u8s_set (l : List UInt8) (i : Nat) (x : UInt8) : (u8s l).toArray.setIfInBounds i (.int .u8 (x.toNat : Int)) = (u8s (l.set i x)).toArray := by
  simp [u8s, u8v, List.map_set]
theorem id_zero2 : (Try.prog.info? 49).map (·.zero) = some (some (arr (zeros 32))) := by kernel_rfl
theorem id_size2 : (Try.prog.info? 49).map (·.size) = some 32 := by kernel_rfl
theorem byte_size2 : (Try.prog.info? 5).map (·.size) = some 1 := by kernel_rfl

set_option maxRecDepth 100000 in
set_option maxHeartbeats 1000000 in
theorem told_code {w : World} {L : List UInt32} (hl : L.length = 8) : Calls Try.prog 75 #[.agg (w32s L).toArray] w fun e w' => e = .returned (arr (toldM L)) ∧ Step (fun _ => False) w w' := by
  have HL := Lib.hid hl
  have hA := Lib.hid True.intro
  have htl := toldM_length L
  have htv : ∀ j, j < 32 → (toldM L)[j]? = some (toldB L j) := fun j hj => by simp [toldM, hj]
  generalize hT : toldM L = T at *
  have HT := Lib.hid hT
  have Htl := Lib.hid htl
  clear hl hT htl
  go_enter Try.func75, Try.ntmps75
  go_wp2_with (first
    | (refine wl_box rfl 131 (.tmp 0) rfl (.agg (w32s L).toArray) rfl ?_; intro w1 hb1 hS1 hw; clear hw; have hz1 := hb1.lt)
    | (clear hA; refine wl_alloc rfl 49 rfl _ id_zero2 ?_; intro w2 hb2 hS2 hw; clear hw; have hz2 := hb2.lt; replace hb2 : Blk w2 w1.heap.size 49 (u8s (zeros 32)).toArray := hb2; replace hb1 := hb1.step hS2 id)
    | (refine wl_alloc rfl 49 rfl _ id_zero2 ?_; intro w3 hb3 hS3 hw; clear hw; replace hb3 : Blk w3 w2.heap.size 49 (u8s (zeros 32)).toArray := hb3; replace hb1 := hb1.step hS3 id; replace hb2 := hb2.step hS3 id; have hcL : Cells w3 w.heap.size 0 (w32s L) := hb1.cells)
    | (refine wl_load rfl 131 _ rfl w.heap.size 0 rfl (w32s L) _ Try.underlying131 rfl (by rw [eight_size, w32s_length, HL.out]) hcL ?_))
  have hS : Step (fun _ => False) w w3 := (hS1.tr hS2).tr hS3
  have hz4 := hS2.size
  have hn : w1.heap.size ≠ w2.heap.size := by omega
  have hz5 : w.heap.size ≤ w2.heap.size := by omega
  go_loopw [8] (fun i wr => ∃ j : Nat, i = .int .i64 j ∧ j ≤ 8 ∧ Blk wr w2.heap.size 49 (u8s (upto T 32 (4 * j))).toArray ∧ Blk wr w1.heap.size 49 (u8s (zeros 32)).toArray ∧ Step (fun _ => False) w wr) (fun i _ => 8 - (intOf i).toNat)
  case atStart => exact ⟨0, rfl, by omega, by rw [upto_zero]; exact hb3, hb2, hS⟩
  case round =>
    obtain ⟨j, rfl, hj, hB, hR, hSr⟩ := hrel
    by_cases hlt : j < 8
    · have hLj : j < L.length := by rw [HL.out]; exact hlt
      have hidx : ∀ W', (Instr.index 131 (.agg (w32s L).toArray) (.int .i64 (j : Int))).run Try.prog W' = .ok (.int .u32 ((L.getD j 0).toNat : Int)) W' := fun W' => run_index_one Try.underlying131 Try.underlying44 rfl word_size hlt (by rw [List.getElem?_toArray, w32s_get L j hLj, List.getD_eq_getElem?_getD, List.getElem?_eq_getElem hLj]; rfl)
      have hji : (j : Int) < 8 := by omega
      generalize hx : L.getD j 0 = x at *
      have Hx := Lib.hid hx
      clear hx
      go_wp2
      (try simp only [decide_eq_true (show (j : Int) < 8 by omega)])
      clear hidx
      go_loopw [12] (fun i wr => ∃ k : Nat, i = .int .i64 k ∧ k ≤ 4 ∧ Blk wr w2.heap.size 49 (u8s (upto T 32 (4 * j + k))).toArray ∧ Blk wr w1.heap.size 49 (u8s (zeros 32)).toArray ∧ Step (fun _ => False) w wr) (fun i _ => 4 - (intOf i).toNat)
      case atStart => exact ⟨0, rfl, by omega, hB, hR, hSr⟩
      case round =>
        obtain ⟨k, rfl, hk, hB2, hR2, hSr2⟩ := hrel
        by_cases hlk : k < 4
        · have hp : 4 * j + k < 32 := by omega
          have ht := htv (4 * j + k) hp
          have hval : ((x.toNat : Int) / 2 ^ (24 - 8 * k)) % 256 = ((toldB L (4 * j + k)).toNat : Int) := by
            rw [toldB, show (4 * j + k) / 4 = j by omega, show (4 * j + k) % 4 = k by omega, Hx.out, UInt8.toNat_ofNat', Int.natCast_emod, Int.natCast_ediv, Int.natCast_pow]
            rfl
          have f0 : (0 : Int) ≤ 24 - 8 * (k : Int) := by omega
          have f1 : (24 - 8 * (k : Int)).toNat = 24 - 8 * k := by omega
          have f2 : min (24 - 8 * k) 32 = 24 - 8 * k := by omega
          have f4 : IntKind.i64.wrap (24 - 8 * (k : Int)) = 24 - 8 * (k : Int) := wrap_small _ (by omega) (by omega)
          have f5 : (0 : Int) ≤ 4 * (j : Int) + (k : Int) := by omega
          have f6 : 4 * (j : Int) + (k : Int) < 32 := by omega
          have f7 : (4 * (j : Int) + (k : Int)).toNat = 4 * j + k := by omega
          have f8 : IntKind.i64.wrap (4 * (j : Int)) = 4 * (j : Int) := wrap_small _ (by omega) (by omega)
          have f9 : IntKind.i64.wrap (4 * (j : Int) + (k : Int)) = 4 * (j : Int) + (k : Int) := wrap_small _ (by omega) (by omega)
          have fa : IntKind.i64.wrap (8 * (k : Int)) = 8 * (k : Int) := wrap_small _ (by omega) (by omega)
          have hset := upto_set T Htl.out hp
          have hTe : T[4 * j + k]'(by rw [Htl.out]; exact hp) = toldB L (4 * j + k) := (List.getElem?_eq_some_iff.1 ht).2
          rw [hTe] at hset
          have Hset := Lib.hid hset
          clear hset hTe ht
          generalize toldB L (4 * j + k) = c at *
          have Hval := Lib.hid hval
          clear hval
          have hsz : 4 * j + k < (u8s (upto T 32 (4 * j + k))).toArray.size := by
            rw [List.size_toArray, u8s_length, upto_length T Htl.out (by omega)]
            exact hp
          have Hsz := Lib.hid hsz
          clear hsz
          go_wp2_with (refine wl_put _ rfl 5 _ _ rfl w2.heap.size (4 * j + k) rfl (.int .u8 ((x.toNat : Int) / 2 ^ (24 - 8 * k) % 256)) rfl rfl rfl byte_size2 49 _ hB2 Hsz.out ?_; intro w9 hb9 hS9)
          rw [Hval.out, u8s_set, Hset.out] at hb9
          refine ⟨⟨k + 1, by go_num, by omega, hb9, hR2.step hS9 hn, hSr2.trans hS9 (fun i hi e => by omega)⟩, by simp only [intOf]; omega⟩
        · have : k = 4 := by omega
          subst this
          go_wp2
          exact ⟨⟨j + 1, by go_num, by omega, by rw [show 4 * (j + 1) = 4 * j + 4 by omega]; exact hB2, hR2, hSr2⟩, by simp only [intOf]; omega⟩
    · have : j = 8 := by omega
      subst this
      have hTT : upto T 32 (4 * 8) = T := upto_all T Htl.out
      rw [hTT] at hB
      clear hTT
      have hcT : Cells wr w2.heap.size 0 (u8s T) := hB.cells
      go_wp2_with (first
        | (refine wl_load rfl 49 _ rfl w2.heap.size 0 rfl (u8s T) _ Try.underlying49 rfl (by rw [id_size2, u8s_length, Htl.out]) hcT ?_)
        | (refine wl_store_all rfl 49 _ _ rfl w1.heap.size rfl (u8s T) rfl (by rw [id_size2, u8s_length, Htl.out]) (u8s_one _) 49 _ hR (by rw [List.size_toArray, u8s_length, u8s_length, Htl.out, zeros_length]) ?_; intro w9 hb9 hS9 hz; clear hz))
      have hc9 : Cells w9 w1.heap.size 0 (u8s T) := hb9.cells
      refine bodyPost_ret (res_cell1 rfl rfl (run_loadVar_agg Try.underlying49 rfl (by rw [id_size2, u8s_length, Htl.out]) hc9)) rfl ?_
      exact ⟨rfl, hSr.trans hS9 (fun i hi e => by omega)⟩
end Go.Proofs.Ytcmgjoamfjijhaa
