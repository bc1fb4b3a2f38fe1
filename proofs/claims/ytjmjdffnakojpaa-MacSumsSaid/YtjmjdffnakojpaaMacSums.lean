/- The tag of any parts with any key, held against the reference's. -/
import Derived.Test.YtjmjdffnakojpaaMacRef
import Derived.Test.YtjmjdffnakojpaaAwake03
namespace Go.Proofs.Ytjmjdffnakojpaa
open Go.RowKit
set_option linter.unusedVariables false
set_option linter.unusedSimpArgs false

set_option maxRecDepth 100000 in
set_option maxHeartbeats 1000000 in
theorem walk_MacSums {w0 : World} {key : List UInt8} {A B : Option Addr} {n c m d : Nat} {ps : List RowAt} (hk : Sl w0 A n c 1 (u8s key)) (hl : Sl w0 B m d 1 (ps.flatMap rowc) ∧ RowsIs w0 ps) :
    Calls Try.prog 8 #[.slice A n c, .slice B m d] w0 fun e w' => e = .returned (.bool true) ∧ Below w0.heap.size w0 w' := by
  have h := (St.rows0 hl.1 hl.2).reading hk (by omega) (fun k hk2 => ⟨hk.ft_lt (by omega) hk2, id⟩)
  have hmp := hl.1.n_rows
  have hml := macM_length key (ps.flatMap (·.l))
  obtain ⟨M, hM⟩ : ∃ M, macM key (ps.flatMap (·.l)) = M := ⟨_, rfl⟩
  rw [hM] at hml
  have HM := Lib.hid hM
  clear hM
  have Hmp := Lib.hid hmp
  have Hml := Lib.hid hml
  clear hk hl hmp hml
  by_cases hn : n ≤ 300
  · have hd : decide ((300 : Int) < (n : Int)) = false := by simp; omega
    by_cases hm : m ≤ 10
    · have hd2 : decide ((10 : Int) < (m : Int)) = false := by simp; omega
      go_enter Try.func8, Try.ntmps8
      go_wp2_with (first
        | (go_at_call 24; refine (mac_awake h).mono ?_; clear h; rintro e w ⟨rfl, h⟩))
      go_loopw [19] (fun x wr => ∃ j : Nat, x = .int .i64 (j : Int) ∧ j ≤ m ∧ (∀ i (hi : i < ps.length), i < j → (ps[i]).l.length ≤ 300) ∧ St (fun _ => False) w0 wr [eSl A n c 1 (u8s key), eRows B m d ps]) (fun x _ => m - (intOf x).toNat)
      case atStart => exact ⟨0, rfl, by omega, fun _ _ h => by omega, h⟩
      case round =>
        clear h
        obtain ⟨j, rfl, hj, hsm, h⟩ := hrel
        by_cases hlt : j < m
        · have hjp : j < ps.length := by have := Hmp.out; omega
          obtain ⟨b, off, rfl, hcel⟩ := (h.rowsAt B m d).1.elem (f := rowc) rowc_length hjp (by omega)
          have hc1 : wr.cell? ⟨b, off + j, none⟩ = some (.slice (ps[j]).A (ps[j]).n (ps[j]).c) := by
            have := hcel 0 _ rfl
            rwa [Nat.mul_one, Nat.add_zero] at this
          have hpl := ((h.rowsAt (some ⟨b, off, none⟩) m d).2 _ (List.getElem_mem hjp)).n_eq
          have hsm2 : (ps[j]).n ≤ 300 → ∀ i (hi : i < ps.length), i < j + 1 → (ps[i]).l.length ≤ 300 := fun h3 i hi hij => by
            by_cases hij2 : i < j
            · exact hsm i hi hij2
            · obtain rfl : i = j := by omega
              omega
          have Hsm2 := Lib.hid hsm2
          generalize (ps[j]).A = Bp at *
          generalize (ps[j]).n = mp at *
          generalize (ps[j]).c = dp at *
          have f1 : (j : Int) < (m : Int) := by omega
          clear hcel hpl hsm hsm2
          by_cases hm3 : mp ≤ 300
          · have f2 : decide ((300 : Int) < (mp : Int)) = false := by simp; omega
            go_wp2_with (first
              | (refine wl_reads rfl (ex_load1_at _ _ rfl b (off + j) rfl _ hc1) ?_))
            exact ⟨⟨j + 1, by go_num, by omega, Hsm2.out hm3, h⟩, by simp only [intOf]; omega⟩
          · have f2 : decide ((300 : Int) < (mp : Int)) = true := by simp; omega
            go_wp2_with (first
              | (refine wl_reads rfl (ex_load1_at _ _ rfl b (off + j) rfl _ hc1) ?_))
            go_ret
            exact ⟨rfl, h.step.below⟩
        · have f1 : ¬ (j : Int) < (m : Int) := by omega
          have hrow : ∀ p ∈ ps, p.l.length ≤ 100000 := fun p hp => by
            obtain ⟨i, hi, rfl⟩ := List.getElem_of_mem hp
            have := hsm i hi (by have := Hmp.out; omega)
            omega
          have Hrow := Lib.hid hrow
          clear hrow hsm
          go_wp2_with (first
            | (go_at_call 25; refine (mac_code h (by omega) (by omega) Hrow.out).mono ?_; rw [HM.out]; clear h; rintro e w ⟨rfl, h⟩)
            | (go_at_call 27; refine (cat_ref h (by omega) Hrow.out).mono ?_; clear h; rintro e w ⟨Ac, nc, cc, rfl, h⟩; have hnc := (h.sl Ac nc cc).n_eq; have hcb := catM_le ps Hrow.out m; rw [catM_all ps (by have := Hmp.out; omega)] at hcb; have hncb : nc ≤ 1000000 := (by omega); clear hnc hcb)
            | (go_at_call 26; refine (mac_ref h (by omega) hncb).mono ?_; rw [HM.out]; clear h; rintro e w ⟨rfl, h⟩)
            | (refine wl_reads rfl (ex_eq _ _ _ _ rfl M M rfl rfl Hml.out Hml.out true (by simp)) ?_))
          go_ret
          exact ⟨rfl, h.step.below⟩
    · have hd2 : decide ((10 : Int) < (m : Int)) = true := by simp; omega
      go_enter Try.func8, Try.ntmps8
      go_wp2_with (first
        | (go_at_call 24; refine (mac_awake h).mono ?_; clear h; rintro e w ⟨rfl, h⟩))
      go_ret
      exact ⟨rfl, h.step.below⟩
  · have hd : decide ((300 : Int) < (n : Int)) = true := by simp; omega
    go_enter Try.func8, Try.ntmps8
    go_wp2_with (first
      | (go_at_call 24; refine (mac_awake h).mono ?_; clear h; rintro e w ⟨rfl, h⟩))
    go_ret
    exact ⟨rfl, h.step.below⟩
end Go.Proofs.Ytjmjdffnakojpaa
