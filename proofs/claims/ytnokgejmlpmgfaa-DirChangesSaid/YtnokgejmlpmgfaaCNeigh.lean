/- The iterator 'neighbours' of envel. -/
import Derived.Test.YtnokgejmlpmgfaaCOrder
import Derived.Test.YtnokgejmlpmgfaaCB1
import Derived.Test.YtnokgejmlpmgfaaCB2
namespace Go.Proofs.Ytnokgejmlpmgfaa
open Go.RowKit Go.Shelf

/-- Each two that stand side by side. -/
def pairsM (l : List Id) : List (Id × Id) := l.zip l.tail
theorem pairsM_length (l : List Id) : (pairsM l).length = l.length - 1 := by simp [pairsM]
theorem pairsM_take (l : List Id) {j : Nat} (h1 : 1 ≤ j) (hj : j < l.length) : (pairsM l).take j = (pairsM l).take (j - 1) ++ [(l[j - 1], l[j])] := by
  obtain ⟨k, rfl⟩ : ∃ k, j = k + 1 := ⟨j - 1, by omega⟩
  rw [List.take_succ_eq_append_getElem (by rw [pairsM_length]; omega)]
  simp [pairsM]

theorem neigh_make {w : World} {A : Option Addr} {m c : Nat} : Calls Try.prog 106 #[.slice A m c] w fun e w' =>
    e = .returned (.func (.func 135) #[] #[.pointer (some ⟨w.heap.size, 0, none⟩)]) ∧ w'.cell? ⟨w.heap.size, 0, none⟩ = some (.slice A m c) ∧ Step (fun _ => False) w w' ∧ w'.heap.size = w.heap.size + 1 := by
  go_enter Try.func106, Try.ntmps106
  go_wp2
  go_ret
  exact ⟨rfl, (Blk.new w _ _).cell 0, (Step.refl _ _).alloc _, by simp⟩

set_option maxRecDepth 100000 in
set_option maxHeartbeats 1000000 in
theorem neigh_tells {w : World} {l : List Id} {Bn m c : Nat} {A : Option Addr} (hc : w.cell? ⟨Bn, 0, none⟩ = some (.slice A m c)) (hl : Sl w A m c 32 (l.flatMap idc)) (hm : m ≤ 1000000000) :
    Tells Try.prog 135 #[.pointer (some ⟨Bn, 0, none⟩)] (fun x => #[.agg (idc x.1).toArray, .agg (idc x.2).toArray]) (fun k => k = Bn ∨ Ft A m k) (pairsM l) w := by
  intro n lp J Jx W hW hJ hJx hY h0
  refine callsIn_wide.2 ?_
  have hcW : W.cell? ⟨Bn, 0, none⟩ = some (.slice A m c) := (hW.cell (p := ⟨Bn, 0, none⟩) (World.block_lt_of_cell? w _ hc)).trans hc
  have hlW : Sl W A m c 32 (l.flatMap idc) := hl.step (Step.mono (T := fun k => w.heap.size ≤ k) ⟨hW.os, hW.tape, hW.output, hW.size, fun k hk hs => hW.block k (by omega)⟩ (fun _ _ h => h)) (fun k hk h => by have := hl.ft_lt (by omega) hk; omega)
  have Hm := Lib.hid (hl.n_flat idc_length (by omega))
  clear hc hl hW
  go_enter Try.func135, Try.ntmps135
  go_wp2
  go_loopw [3] (fun i wr => ∃ j : Nat, i = .int .i64 j ∧ 1 ≤ j ∧ (j ≤ m ∨ j = 1) ∧ J ((pairsM l).take (j - 1)) wr ∧ wr.cell? ⟨Bn, 0, none⟩ = some (.slice A m c) ∧ Sl wr A m c 32 (l.flatMap idc)) (fun i _ => m - (intOf i).toNat)
  case atStart => exact ⟨1, rfl, Nat.le_refl _, .inr rfl, by simpa using h0, hcW, hlW⟩
  case round =>
    obtain ⟨j, rfl, h1, hj, hJr, hcr, hlr⟩ := hrel
    by_cases hlt : j < m
    · have hjl : j < l.length := by have := Hm.out; omega
      obtain ⟨b, off, rfl, hx1⟩ := hlr.elem idc_length (k := j - 1) (by omega) (by omega)
      obtain ⟨b', off', e, hx2⟩ := hlr.elem idc_length (k := j) hjl (by omega)
      injection e with e
      injection e with e1 e2
      subst e1 e2
      have hd1 : Cells wr.drew b (off + (j - 1) * 32) (idc l[j - 1]) := hx1
      have hd2 : Cells wr.drew b (off + j * 32) (idc l[j]) := hx2
      have hcd : wr.drew.cell? ⟨Bn, 0, none⟩ = some (.slice (some ⟨b, off, none⟩) m c) := hcr
      have hsub : (j : Int) - 1 = ((j - 1 : Nat) : Int) := by omega
      have hwr : IntKind.i64.wrap ((j - 1 : Nat) : Int) = ((j - 1 : Nat) : Int) := wrap_small _ (by omega) (by omega)
      have hin : (0 ≤ ((j - 1 : Nat) : Int) ∧ ((j - 1 : Nat) : Int) < (m : Int)) = True := eq_true ⟨by omega, by omega⟩
      have hin2 : (0 ≤ (j : Int) ∧ (j : Int) < (m : Int)) = True := eq_true ⟨by omega, by omega⟩
      have hlt3 : ((j - 1 : Nat) : Int) < (m : Int) := by omega
      have hlt4 : (j : Int) < (m : Int) := by omega
      go_upto_region 3 with (fail)
      refine (wpIn_wide (n := n)).1 ?_
      obtain ⟨fn, tmps, assign, body, hy, hR⟩ := hY _ (l[j - 1], l[j]) wr.drew (hJ _ _ _ none hJr ⟨rfl, rfl, rfl, Nat.le_refl _, fun _ _ _ => rfl⟩ (fun r e => by cases e)) (by rw [List.length_take, pairsM_length]; omega)
      dsimp only at hy
      refine wpIn_region_tail 10 (by kernel_rfl) (by kernel_rfl) ?_
      simp only [List.take_succ_cons, List.take_zero, List.drop_succ_cons, List.drop_zero]
      repeat (first
        | (refine ws_load rfl 85 _ rfl b (off + (j - 1) * 32) rfl (idc l[j - 1]) _ Try.underlying85 rfl (by rw [id_size, idc_length]) hd1 ?_)
        | (refine ws_load rfl 85 _ rfl b (off + j * 32) rfl (idc l[j]) _ Try.underlying85 rfl (by rw [id_size, idc_length]) hd2 ?_)
        | still_step)
      refine wpStill_nil ?_
      simp only [Act.put, List.setIfInBounds_toArray, List.set_cons_succ, List.set_cons_zero]
      gi_wp2
      refine ⟨fun h => (by cases h), hR.mono ?_⟩
      rintro e W3 (⟨rfl, hJ3, hk3⟩ | ⟨rfl, hJx3⟩)
      · rw [← pairsM_take l h1 hjl] at hJ3
        have hc3 : W3.cell? ⟨Bn, 0, none⟩ = some (.slice (some ⟨b, off, none⟩) m c) := hk3.cell (p := ⟨Bn, 0, none⟩) hcd (.inl rfl)
        have hl3 := hk3.sl (hlr.drew) (fun k hk => .inr hk)
        gi_wp2
        go_wp2
        go_roundw
        case rel => exact ⟨j + 1, by go_num, by omega, .inl (by omega), hJ3, hc3, hl3⟩
        case measure => simp [intOf]; omega
      · rw [← pairsM_take l h1 hjl] at hJx3
        gi_wp2
        go_wp2
        refine bodyPost_ret (results_none rfl _ _ _) rfl ?_
        exact ⟨⟨_, rfl⟩, .inr ⟨_, List.take_prefix _ _, hJx3⟩⟩
    · rw [List.take_of_length_le (by rw [pairsM_length]; have := Hm.out; omega)] at hJr
      go_wp2
      go_end0
      exact ⟨⟨_, rfl⟩, .inl ⟨_, rfl, hJr⟩⟩
end Go.Proofs.Ytnokgejmlpmgfaa
