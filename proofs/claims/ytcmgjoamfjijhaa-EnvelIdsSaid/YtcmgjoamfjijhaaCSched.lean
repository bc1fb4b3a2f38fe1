/- The words of a block. -/
import Derived.Test.YtcmgjoamfjijhaaCWords
import Derived.Test.YtcmgjoamfjijhaaCB1
import Derived.StillTailTactics
namespace Go.Proofs.Ytcmgjoamfjijhaa
open Go.RowKit

def w32 (x : UInt32) : Value := .int .u32 (x.toNat : Int)
def w32s (l : List UInt32) : List Value := l.map w32
theorem w32s_length (l : List UInt32) : (w32s l).length = l.length := by simp [w32s]
theorem w32s_get (l : List UInt32) (i : Nat) (h : i < l.length) : (w32s l)[i]? = some (.int .u32 (l[i].toNat : Int)) := by simp [w32s, w32, h]
theorem w32s_set (l : List UInt32) (i : Nat) (x : UInt32) : (w32s l).toArray.setIfInBounds i (.int .u32 (x.toNat : Int)) = (w32s (l.set i x)).toArray := by
  simp [w32s, w32, List.map_set]
theorem w32s_one (l : List UInt32) : ∀ u ∈ w32s l, u.oneCell' = true := by
  intro u hu
  simp only [w32s, List.mem_map] at hu
  obtain ⟨x, _, rfl⟩ := hu
  rfl

theorem Blk.word {w : World} {g : Nat} {t : TypeId} {L : List UInt32} (h : Blk w g t (w32s L).toArray) {i : Nat} (hi : i < L.length) : w.cell? ⟨g, i, none⟩ = some (.int .u32 ((L.getD i 0).toNat : Int)) := by
  rw [h.cell, List.getElem?_toArray, w32s_get L i hi, List.getD_eq_getElem?_getD, List.getElem?_eq_getElem hi]
  rfl

/-- A byte as a word. -/
def up (c : UInt8) : UInt32 := c.toUInt32
theorem up_val (c : UInt8) : ((up c).toNat : Int) = (c.toNat : Int) := by simp [up]
/-- Bytes as a word, the highest ahead. -/
def beW (l : List UInt8) : UInt32 := l.foldl (fun x c => orW (shlW x 8) (up c)) 0

theorem beW_snoc (l : List UInt8) (c : UInt8) : beW (l ++ [c]) = orW (shlW (beW l) 8) (up c) := by simp [beW]

/-- A word of the schedule from those ahead of it. -/
def mixW (L : List UInt32) (t : Nat) : UInt32 :=
  addW (addW (addW (turnM (L.getD (t - 2) 0) 17 19 10 true) (L.getD (t - 7) 0)) (turnM (L.getD (t - 15) 0) 7 18 3 true)) (L.getD (t - 16) 0)
def schedAt (b : List UInt8) : Nat → List UInt32
  | 0 => List.replicate 64 0
  | t + 1 => (schedAt b t).set t (if t < 16 then beW ((b.drop (4 * t)).take 4) else mixW (schedAt b t) t)
theorem schedAt_length (b : List UInt8) : ∀ t, (schedAt b t).length = 64
  | 0 => by simp [schedAt]
  | t + 1 => by simp [schedAt, schedAt_length b t]
def schedM (b : List UInt8) : List UInt32 := schedAt b 64
theorem schedM_def (b : List UInt8) : schedAt b 64 = schedM b := by rw [schedM]

theorem words_zero : (Try.prog.info? 161).map (·.zero) = some (some (.agg (w32s (List.replicate 64 0)).toArray)) := by kernel_rfl
theorem words_size : (Try.prog.info? 161).map (·.size) = some 64 := by kernel_rfl
theorem word_size : (Try.prog.info? 44).map (·.size) = some 1 := by kernel_rfl

theorem set_same {α : Type} {l : List α} {i : Nat} {x : α} (h : l[i]? = some x) : l.set i x = l := by
  obtain ⟨hi, rfl⟩ := List.getElem?_eq_some_iff.1 h
  exact List.set_getElem_self hi
theorem schedAt_rest (b : List UInt8) : ∀ (t i : Nat), t ≤ i → i < 64 → (schedAt b t)[i]? = some 0
  | 0, i, _, h => by rw [schedAt, List.getElem?_replicate, if_pos h]
  | t + 1, i, h, h' => by
    rw [schedAt, List.getElem?_set_ne (by omega)]
    exact schedAt_rest b t i (by omega) h'

set_option maxRecDepth 100000 in
set_option maxHeartbeats 1000000 in
theorem sched_code {w : World} {b : List UInt8} (hb : b.length = 64) :
    Calls Try.prog 96 #[arr b] w fun e w' => e = .returned (.agg (w32s (schedM b)).toArray) ∧ Step (fun _ => False) w w' := by
  have Hb := Lib.hid hb
  clear hb
  have hA := Lib.hid True.intro
  go_enter Try.func96, Try.ntmps96
  go_wp2_with (first
    | (refine wl_box rfl 120 (.tmp 0) rfl (arr b) rfl ?_; intro w1 hb1 hS1 hw; clear hw)
    | (clear hA; refine wl_alloc rfl 161 rfl _ words_zero ?_; intro w2 hb2 hS2 hw; have hz0 := hb2.lt; have hz9 := (hb1.step hS2 id).lt; clear hw)
    | (refine wl_alloc rfl 161 rfl _ words_zero ?_; intro w3 hb3 hS3 hw; clear hw))
  replace hb1 : Blk w3 w.heap.size 120 (u8s b).toArray := (hb1.step hS2 id).step hS3 id
  replace hb2 : Blk w3 w1.heap.size 161 (w32s (List.replicate 64 0)).toArray := hb2.step hS3 id
  replace hb3 : Blk w3 w2.heap.size 161 (w32s (schedAt b 0)).toArray := hb3
  have hS : Step (fun _ => False) w w3 := (hS1.tr hS2).tr hS3
  have hz1 := hb1.lt
  have hz2 := hb2.lt
  have hn1 : w.heap.size ≠ w2.heap.size := by omega
  have hn2 : w1.heap.size ≠ w2.heap.size := by omega
  go_loopw [8] (fun i wr => ∃ t : Nat, i = .int .i64 t ∧ t ≤ 16 ∧ Blk wr w2.heap.size 161 (w32s (schedAt b t)).toArray ∧ Blk wr w.heap.size 120 (u8s b).toArray ∧ Blk wr w1.heap.size 161 (w32s (List.replicate 64 0)).toArray ∧ Step (fun _ => False) w wr) (fun i _ => 16 - (intOf i).toNat)
  case atStart => exact ⟨0, rfl, by omega, hb3, hb1, hb2, hS⟩
  case round =>
    obtain ⟨t, rfl, ht, hW, hB, hR, hSr⟩ := hrel
    by_cases hlt : t < 16
    · have h4 : IntKind.i64.wrap (4 * (t : Int)) = ((4 * t : Nat) : Int) := by rw [wrap_small _ (by omega) (by omega)]; omega
      have f0 : (0 : Int) ≤ 4 * (t : Int) := by omega
      have f1 : 4 * (t : Int) ≤ 4 * (t : Int) + 4 := by omega
      have f2 : 4 * (t : Int) + 4 ≤ 64 := by omega
      have f3 : 4 * (t : Int) + 4 ≤ ((Try.prog.arrayLen 120 : Nat) : Int) := by rw [show Try.prog.arrayLen 120 = 64 by kernel_rfl]; omega
      have h44 : IntKind.i64.wrap (((4 * t : Nat) : Int) + 4) = ((4 * t + 4 : Nat) : Int) := by rw [wrap_small _ (by omega) (by omega)]; omega
      have hl4 : 4 * t + 4 - 4 * t = 4 := by omega
      go_wp2
      simp only [hl4, decide_eq_true (show (t : Int) < 16 by omega)]
      clear f0 f1 f2 f3 hl4 h4 h44
      go_loopw [18] (fun k wr2 => ∃ j : Nat, k = .int .i64 j ∧ j ≤ 4 ∧ Blk wr2 w2.heap.size 161 (w32s ((schedAt b t).set t (beW (((b.drop (4 * t)).take 4).take j)))).toArray ∧ Blk wr2 w.heap.size 120 (u8s b).toArray ∧ Blk wr2 w1.heap.size 161 (w32s (List.replicate 64 0)).toArray ∧ Step (fun _ => False) w wr2) (fun k _ => 4 - (intOf k).toNat)
      case atStart =>
        refine ⟨0, rfl, by omega, ?_, hB, hR, hSr⟩
        rw [List.take_zero, show beW [] = 0 from rfl, set_same (schedAt_rest b t t (Nat.le_refl _) (by omega))]
        exact hW
      case round =>
        obtain ⟨j, rfl, hj, hW2, hB2, hR2, hSr2⟩ := hrel
        by_cases hjl : j < 4
        · have hbl : 4 * t + j < b.length := by rw [Hb.out]; omega
          have hcb : wr.cell? ⟨w.heap.size, 4 * t + j, none⟩ = some (u8v b[4 * t + j]) := (hB2.cell _).trans (by simpa using u8s_get b (4 * t + j) hbl)
          rw [u8v] at hcb
          have hL : ((schedAt b t).set t (beW (((b.drop (4 * t)).take 4).take j))).length = 64 := by rw [List.length_set, schedAt_length]
          have hcw : wr.cell? ⟨w2.heap.size, t, none⟩ = some (.int .u32 ((beW (((b.drop (4 * t)).take 4).take j)).toNat : Int)) := by
            refine (hW2.cell t).trans ?_
            rw [List.getElem?_toArray, w32s_get _ t (by rw [hL]; omega), List.getElem_set_self]
          have htk : ((b.drop (4 * t)).take 4).take (j + 1) = ((b.drop (4 * t)).take 4).take j ++ [b[4 * t + j]] := by
            rw [List.take_succ_eq_append_getElem (by simp; omega)]
            simp
          have hnew := beW_snoc (((b.drop (4 * t)).take 4).take j) b[4 * t + j]
          rw [← htk] at hnew
          have Hnew := Lib.hid hnew
          clear hnew htk hL
          generalize beW (((b.drop (4 * t)).take 4).take j) = x at *
          generalize b[4 * t + j] = c at *
          have hsh : (x.toNat : Int) * 256 % 4294967296 = ((shlW x 8).toNat : Int) := w_shl x (k := 8) (by omega)
          have hcm : (c.toNat : Int) % 4294967296 = (c.toNat : Int) := by have := c.toNat_lt; omega
          have hor := w_or (shlW x 8) (up c)
          rw [up_val] at hor
          have hjt : (t : Int) < 64 := by omega
          go_wp2_with (refine wl_put _ rfl 44 _ _ rfl w2.heap.size t rfl (.int .u32 ((orW (shlW x 8) (up c)).toNat : Int)) rfl rfl rfl word_size 161 _ hW2 (by simp [w32s_length, schedAt_length]; omega) ?_; intro w9 hb9 hS9)
          rw [w32s_set, List.set_set] at hb9
          refine ⟨⟨j + 1, by go_num, by omega, by rw [Hnew.out]; exact hb9, hB2.step hS9 hn1, hR2.step hS9 hn2, hSr2.trans hS9 (fun i hi e => by have := hS.size; have := hz1; have := hS1.size; omega)⟩, by simp only [intOf]; omega⟩
        · have : j = 4 := by omega
          subst this
          go_wp2
          refine ⟨⟨t + 1, by go_num, by omega, ?_, hB2, hR2, hSr2⟩, by simp only [intOf]; omega⟩
          rw [schedAt, if_pos hlt]
          rwa [List.take_of_length_le (by simp; omega)] at hW2
    · have : t = 16 := by omega
      subst this
      go_wp2
      simp only [show ((16 : Nat) : Int) = 16 from rfl]
      go_loopw [7] (fun i wr => ∃ t : Nat, i = .int .i64 t ∧ 16 ≤ t ∧ t ≤ 64 ∧ Blk wr w2.heap.size 161 (w32s (schedAt b t)).toArray ∧ Blk wr w1.heap.size 161 (w32s (List.replicate 64 0)).toArray ∧ Step (fun _ => False) w wr) (fun i _ => 64 - (intOf i).toNat)
      case atStart => exact ⟨16, rfl, by omega, by omega, hW, hR, hSr⟩
      case round =>
        obtain ⟨t, rfl, ht1, ht2, hW2, hR2, hSr2⟩ := hrel
        by_cases hlt2 : t < 64
        · have hlen := schedAt_length b t
          have hd : Blk wr.drew w2.heap.size 161 (w32s (schedAt b t)).toArray := hW2
          have c2 := hd.word (i := t - 2) (by omega)
          have c7 := hd.word (i := t - 7) (by omega)
          have c15 := hd.word (i := t - 15) (by omega)
          have c16 := hd.word (i := t - 16) (by omega)
          have hmix : mixW (schedAt b t) t = addW (addW (addW (turnM ((schedAt b t).getD (t - 2) 0) 17 19 10 true) ((schedAt b t).getD (t - 7) 0)) (turnM ((schedAt b t).getD (t - 15) 0) 7 18 3 true)) ((schedAt b t).getD (t - 16) 0) := rfl
          have s2 : (t : Int) - 2 = ((t - 2 : Nat) : Int) := by omega
          have s7 : (t : Int) - 7 = ((t - 7 : Nat) : Int) := by omega
          have s15 : (t : Int) - 15 = ((t - 15 : Nat) : Int) := by omega
          have s16 : (t : Int) - 16 = ((t - 16 : Nat) : Int) := by omega
          have v2 : IntKind.i64.wrap ((t - 2 : Nat) : Int) = ((t - 2 : Nat) : Int) := wrap_small _ (by omega) (by omega)
          have v7 : IntKind.i64.wrap ((t - 7 : Nat) : Int) = ((t - 7 : Nat) : Int) := wrap_small _ (by omega) (by omega)
          have v15 : IntKind.i64.wrap ((t - 15 : Nat) : Int) = ((t - 15 : Nat) : Int) := wrap_small _ (by omega) (by omega)
          have v16 : IntKind.i64.wrap ((t - 16 : Nat) : Int) = ((t - 16 : Nat) : Int) := wrap_small _ (by omega) (by omega)
          have i2 : ((t - 2 : Nat) : Int) < 64 := by omega
          have i7 : ((t - 7 : Nat) : Int) < 64 := by omega
          have i15 : ((t - 15 : Nat) : Int) < 64 := by omega
          have i16 : ((t - 16 : Nat) : Int) < 64 := by omega
          have Hmix := Lib.hid hmix
          clear hmix hlen
          generalize (schedAt b t).getD (t - 2) 0 = x2 at *
          generalize (schedAt b t).getD (t - 7) 0 = x7 at *
          generalize (schedAt b t).getD (t - 15) 0 = x15 at *
          generalize (schedAt b t).getD (t - 16) 0 = x16 at *
          have hT1 : Calls Try.prog 98 #[.int .u32 x2.toNat, .int .i64 17, .int .i64 19, .int .i64 10, .bool true] wr.drew fun e w' => e = .returned (.int .u32 (turnM x2 17 19 10 true).toNat) ∧ w' = wr.drew := turned_code (a := 17) (b := 19) (c := 10) (by omega) (by omega) (by omega) (by omega) (by omega) (by omega) true
          have hT2 : Calls Try.prog 98 #[.int .u32 x15.toNat, .int .i64 7, .int .i64 18, .int .i64 3, .bool true] wr.drew fun e w' => e = .returned (.int .u32 (turnM x15 7 18 3 true).toNat) ∧ w' = wr.drew := turned_code (a := 7) (b := 18) (c := 3) (by omega) (by omega) (by omega) (by omega) (by omega) (by omega) true
          generalize turnM x2 17 19 10 true = y1 at *
          generalize turnM x15 7 18 3 true = y2 at *
          have a1 := w_add y1 x7
          have a2 := w_add (addW y1 x7) y2
          have a3 := w_add (addW (addW y1 x7) y2) x16
          go_wp2_with fail
          refine wp_region_still_tail 23 (by kernel_rfl) (by kernel_rfl) ?_
          simp only [List.take_succ_cons, List.take_zero, List.drop_succ_cons, List.drop_zero]
          change wpStill _ _ wr.drew _ _ _
          repeat (first
            | still_step
            | (refine wpStill_step (fun K hK => ?_); go_simp; refine ⟨.int .u32 (y1.toNat : Int), hT1, hK _ ?_⟩; clear hK K hT1)
            | (refine wpStill_step (fun K hK => ?_); go_simp; refine ⟨.int .u32 (y2.toNat : Int), hT2, hK _ ?_⟩; clear hK K hT2))
          refine wpStill_nil ?_
          go_wp2_with (refine wl_put _ rfl 44 _ _ rfl w2.heap.size t rfl (.int .u32 ((addW (addW (addW y1 x7) y2) x16).toNat : Int)) rfl rfl rfl word_size 161 _ hd (by rw [List.size_toArray, w32s_length, schedAt_length]; exact hlt2) ?_; intro w9 hb9 hS9)
          rw [w32s_set] at hb9
          refine ⟨⟨t + 1, by go_num, by omega, by omega, ?_, hR2.drew.step hS9 hn2, hSr2.drew.trans hS9 (fun i hi e => by have := hS1.size; omega)⟩, by simp only [intOf]; omega⟩
          rw [schedAt, if_neg (by omega), Hmix.out]
          exact hb9
        · have : t = 64 := by omega
          subst this
          have hlen := schedAt_length b 64
          rw [schedM_def] at hW2 hlen
          generalize hL : schedM b = L at hW2 hlen
          have HL := Lib.hid hL
          clear hL
          have H64 := Lib.hid hlen
          clear hlen
          have hcL : Cells wr w2.heap.size 0 (w32s L) := hW2.cells
          go_wp2_with (first
            | (refine wl_load rfl 161 _ rfl w2.heap.size 0 rfl (w32s L) _ Try.underlying161 rfl (by rw [words_size, w32s_length, H64.out]) hcL ?_)
            | (refine wl_store_all rfl 161 _ _ rfl w1.heap.size rfl (w32s L) rfl (by rw [words_size, w32s_length, H64.out]) (w32s_one _) 161 _ hR2 (by rw [List.size_toArray, w32s_length, w32s_length, H64.out, List.length_replicate]) ?_; intro w9 hb9 hS9 hz; clear hz))
          have hc9 : Cells w9 w1.heap.size 0 (w32s L) := hb9.cells
          refine bodyPost_ret (res_cell1 rfl rfl (run_loadVar_agg Try.underlying161 rfl (by rw [words_size, w32s_length, H64.out]) hc9)) rfl ?_
          exact ⟨by rw [HL.out], hSr2.trans hS9 (fun i hi e => by have := hS1.size; omega)⟩
end Go.Proofs.Ytcmgjoamfjijhaa
