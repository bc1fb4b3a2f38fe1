/- The reference's comparison of lists of ids (its text was printed by mk_ids.py, whose print holds XIds and this in one). -/
import Derived.Test.YtionnlckjjojnaaCIds
namespace Go.Proofs.Ytionnlckjjojnaa
open Go.RowKit

set_option maxRecDepth 100000 in
theorem same_ids {w : World} {A B : Option Addr} {n c m d : Nat} {l k : List Id} (h : Sl w A n c 32 (l.flatMap idc)) (h' : Sl w B m d 32 (k.flatMap idc)) (hb : l.length ≤ 1000000000) :
    Calls Try.prog 15 #[.slice A n c, .slice B m d] w fun e w' => e = .returned (.bool (decide (l = k))) ∧ ∃ q, w' = w.drewN q := by
  have hn := h.n_flat idc_length (by omega)
  have hm := h'.n_flat idc_length (by omega)
  by_cases hlen : n = m
  · obtain ⟨i0, hi, _, hz1, _⟩ := info_parts byte_info
    have hneq := run_neq_id (P := Try.prog) (t := 33) Try.underlying33 Try.underlying5 hi hz1
    clear hi hz1
    subst hlen
    have hnb : n ≤ 1000000000 := by omega
    have Hn := Lib.hid hn
    have Hm := Lib.hid hm
    clear hn hm
    go_enter Try.func15, Try.ntmps15
    go_wp2
    go_loopw [13] (fun i wr => ∃ j : Nat, j ≤ n ∧ i = .int .i64 j ∧ l.take j = k.take j ∧ ∃ q, wr = w.drewN q) (fun i _ => n - (intOf i).toNat)
    case atStart => exact ⟨0, Nat.zero_le _, rfl, rfl, 0, rfl⟩
    case round =>
      obtain ⟨j, hj, rfl, ht, q, rfl⟩ := hrel
      have Ht := Lib.hid ht
      clear ht
      by_cases hlt : j < n
      · obtain ⟨b, off, rfl, hc⟩ := h.elem idc_length (k := j) (by rw [← Hn.out]; exact hlt) (by omega)
        obtain ⟨b', off', rfl, hc'⟩ := h'.elem idc_length (k := j) (by rw [← Hm.out]; exact hlt) (by omega)
        have h1 : Cells (w.drewN q) b (off + j * 32) (idc (l[j]'(by rw [← Hn.out]; exact hlt))) := cells_drew hc _ ⟨q, rfl⟩
        have h2 : Cells (w.drewN q) b' (off' + j * 32) (idc (k[j]'(by rw [← Hm.out]; exact hlt))) := cells_drew hc' _ ⟨q, rfl⟩
        clear hc hc'
        generalize hx : (l[j]'(by rw [← Hn.out]; exact hlt)) = x at *
        generalize hy : (k[j]'(by rw [← Hm.out]; exact hlt)) = y at *
        have Hx := Lib.hid hx
        have Hy := Lib.hid hy
        clear hx hy
        have hz := hneq x y
        clear hneq
        by_cases hxy : x = y
        · subst hxy
          simp only [decide_true, Bool.not_true] at hz
          go_wp2_with fail
          refine wp_region_quiet_lit (by kernel_rfl) (by kernel_rfl) ?_
          repeat (first
            | (refine wq_load rfl 33 _ rfl b (off + j * 32) rfl (idc x) _ Try.underlying33 rfl (by rw [id_size, idc_length]) (cells_drew h1) ?_; simp only [Act.put, List.setIfInBounds_toArray, List.set_cons_succ, List.set_cons_zero])
            | (refine wq_load rfl 33 _ rfl b' (off' + j * 32) rfl (idc x) _ Try.underlying33 rfl (by rw [id_size, idc_length]) (cells_drew h2) ?_; simp only [Act.put, List.setIfInBounds_toArray, List.set_cons_succ, List.set_cons_zero])
            | go_big_quiet_step (fail))
          refine wpQuiet_nil ?_
          intro _ hw'
          obtain ⟨nq, hw''⟩ := hw'
          subst hw''
          go_wp2
          go_roundw
          case rel => exact ⟨j + 1, by omega, by go_num, ids_step Ht.out Hx.out Hy.out, q + nq, by simp⟩
          case measure => simp [intOf]; omega
        · simp only [decide_eq_false hxy, Bool.not_false] at hz
          go_wp2_with fail
          refine wp_region_quiet_lit (by kernel_rfl) (by kernel_rfl) ?_
          repeat (first
            | (refine wq_load rfl 33 _ rfl b (off + j * 32) rfl (idc x) _ Try.underlying33 rfl (by rw [id_size, idc_length]) (cells_drew h1) ?_; simp only [Act.put, List.setIfInBounds_toArray, List.set_cons_succ, List.set_cons_zero])
            | (refine wq_load rfl 33 _ rfl b' (off' + j * 32) rfl (idc y) _ Try.underlying33 rfl (by rw [id_size, idc_length]) (cells_drew h2) ?_; simp only [Act.put, List.setIfInBounds_toArray, List.set_cons_succ, List.set_cons_zero])
            | go_big_quiet_step (fail))
          refine wpQuiet_nil ?_
          intro _ hw'
          obtain ⟨nq, hw''⟩ := hw'
          subst hw''
          go_wp2
          (try rw [Exit.noGoto_ret])
          go_ret
          refine ⟨?_, q + nq, by simp⟩
          have hlk : l ≠ k := by
            rintro rfl
            exact hxy (Hx.out.symm.trans Hy.out)
          rw [decide_eq_false hlk]
          rfl
      · go_wp2
        go_ret
        refine ⟨?_, q, rfl⟩
        have hjn : j = n := by omega
        have h1 := Ht.out
        rw [List.take_of_length_le (by rw [← Hn.out]; omega), List.take_of_length_le (by rw [← Hm.out]; omega)] at h1
        rw [decide_eq_true h1]
        rfl
  · have hne : ¬ ((n : Int) = (m : Int)) := by omega
    have hlk : l ≠ k := by rintro rfl; exact hlen (hn.trans hm.symm)
    clear hn hm
    go_enter Try.func15, Try.ntmps15
    go_wp2
    go_ret
    exact ⟨by rw [decide_eq_false hlk]; rfl, 0, rfl⟩

end Go.Proofs.Ytionnlckjjojnaa
