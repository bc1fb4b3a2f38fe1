/- The iterator Steps of route: the names of a path, each with its number. -/
import Derived.Test.YtplcoielgencfaaCSplit
namespace Go.Proofs.Ytplcoielgencfaa
open Go.RowKit Go.Shelf

/-- Each with its number. -/
def stepsM (l : List (List UInt8)) : List (Nat × List UInt8) := l.zipIdx.map fun p => (p.2, p.1)
theorem stepsM_length (l : List (List UInt8)) : (stepsM l).length = l.length := by simp [stepsM]
theorem stepsM_take (l : List (List UInt8)) {k : Nat} (hk : k < l.length) : (stepsM l).take (k + 1) = (stepsM l).take k ++ [(k, l[k])] := by
  rw [List.take_succ_eq_append_getElem (by rw [stepsM_length]; exact hk)]
  simp [stepsM]
theorem Step.grownBy {w w' : World} (h : Step (fun _ => False) w w') : w.grownBy w' none := ⟨h.os, h.tape, h.output, h.size, fun k hk _ => h.block k hk id⟩

theorem steps_make {w : World} {l : List UInt8} : Calls Try.prog 15 #[.string (str l)] w fun e w' =>
    e = .returned (.func (.func 23) #[] #[.pointer (some ⟨w.heap.size, 0, none⟩)]) ∧ w'.cell? ⟨w.heap.size, 0, none⟩ = some (.string (str l)) ∧ Step (fun _ => False) w w' ∧ w'.heap.size = w.heap.size + 1 := by
  go_enter Try.func15, Try.ntmps15
  go_wp2
  go_ret
  exact ⟨rfl, (Blk.new w _ _).cell 0, (Step.refl _ _).alloc _, by simp⟩

set_option maxRecDepth 100000 in
theorem steps_tells {w : World} {l : List UInt8} {Bn : Nat} (hc : w.cell? ⟨Bn, 0, none⟩ = some (.string (str l))) (hl : l.length ≤ 1000000) :
    Tells Try.prog 23 #[.pointer (some ⟨Bn, 0, none⟩)] (fun x => #[.int .i64 x.1, .string (str x.2)]) (fun k => w.heap.size ≤ k) (stepsM (splitM l).1) w := by
  intro n lp J Jx W hW hJ hJx hY h0
  refine callsIn_wide.2 ?_
  obtain ⟨names, hnm⟩ : ∃ names, (splitM l).1 = names := ⟨_, rfl⟩
  rw [hnm] at hY ⊢
  have Hnm := Lib.hid hnm
  clear hnm
  have hcW : W.cell? ⟨Bn, 0, none⟩ = some (.string (str l)) := (hW.cell (p := ⟨Bn, 0, none⟩) (World.block_lt_of_cell? w _ hc)).trans hc
  have hWs := hW.size
  go_enter Try.func23, Try.ntmps23
  go_wp2_with (go_at_call 12; refine (split_code (by omega)).mono ?_; rintro e w1 ⟨A, m, c, rfl, hs1, hS1, hA1⟩)
  rw [Hnm.out] at hs1
  have hn := hs1.n_strs
  have hJ1 : J [] w1 := hJ [] W w1 none h0 hS1.grownBy (fun r e => by cases e)
  have hS1s := hS1.size
  have hmax : m ≤ 9223372036854775807 := Nat.le_trans hs1.le hs1.cap
  have Hn := Lib.hid hn
  clear hn hW h0 hc hcW
  go_wp2
  go_loopw [14] (fun i wr => ∃ j : Nat, i = .int .i64 j ∧ j ≤ m ∧ J ((stepsM names).take j) wr ∧ Sl wr A m c 1 (strs names)) (fun i _ => m - (intOf i).toNat)
  case atStart => exact ⟨0, rfl, Nat.zero_le _, hJ1, hs1⟩
  case round =>
    obtain ⟨j, rfl, hj, hJr, hsr⟩ := hrel
    have hm := Hn.out
    by_cases hlt : j < m
    · have hjl : j < names.length := by omega
      clear hm
      obtain ⟨b, off, rfl, u, hu, hcell⟩ := hsr.at_ (k := j) hlt
      rw [strs_get _ hjl, Option.some.injEq] at hu
      subst hu
      rw [strv] at hcell
      go_upto_region 4 with (fail)
      refine (wpIn_wide (n := n)).1 ?_
      obtain ⟨fn, tmps, assign, body, hy, hR⟩ := hY _ (j, names[j]) wr hJr (by rw [List.length_take, stepsM_length]; omega)
      dsimp only at hy
      gi_wp2
      refine ⟨fun h => (by cases h), hR.mono ?_⟩
      rintro e W3 (⟨rfl, hJ3, hk3⟩ | ⟨rfl, hJx3⟩)
      · rw [← stepsM_take names hjl] at hJ3
        have hs3 := hk3.sl hsr (fun k hk => Nat.le_trans hWs (hA1 k hk.at_))
        gi_wp2
        go_wp2
        go_roundw
        case rel => exact ⟨j + 1, by go_num, by omega, hJ3, hs3⟩
        case measure => simp [intOf]; omega
      · rw [← stepsM_take names hjl] at hJx3
        gi_wp2
        go_wp2
        refine bodyPost_ret (results_none rfl _ _ _) rfl ?_
        exact ⟨⟨_, rfl⟩, .inr ⟨_, List.take_prefix _ _, hJx3⟩⟩
    · rw [List.take_of_length_le (by rw [stepsM_length]; omega)] at hJr
      clear hm
      go_wp2
      go_end0
      exact ⟨⟨_, rfl⟩, .inl ⟨_, rfl, hJr⟩⟩
end Go.Proofs.Ytplcoielgencfaa
