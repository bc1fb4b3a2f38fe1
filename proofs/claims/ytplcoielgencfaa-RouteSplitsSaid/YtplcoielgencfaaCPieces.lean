/- The iterator 'pieces' of route. -/
import Derived.Test.YtplcoielgencfaaProg
import Derived.Test.YtplcoielgencfaaCB1
import Derived.WalkMore
namespace Go.Proofs.Ytplcoielgencfaa
open Go.RowKit Go.Shelf

/-- What stands between strokes. -/
def pcs : List UInt8 → List UInt8 → List (List UInt8)
  | acc, [] => [acc]
  | acc, c :: r => if c = 47 then acc :: pcs [] r else pcs (acc ++ [c]) r

theorem pcs_pos : ∀ acc l, 0 < (pcs acc l).length
  | _, [] => by simp [pcs]
  | acc, c :: r => by
    unfold pcs
    split
    · simp
    · exact pcs_pos _ r

theorem pcs_cut {l : List UInt8} {a b : Nat} (hb : b < l.length) (h : l[b] = 47) : pcs ((l.take b).drop a) (l.drop b) = (l.take b).drop a :: pcs ((l.take (b + 1)).drop (b + 1)) (l.drop (b + 1)) := by
  have e : (l.take (b + 1)).drop (b + 1) = [] := List.drop_eq_nil_of_le (by simp; omega)
  rw [e, List.drop_eq_getElem_cons hb, pcs, if_pos h]
theorem pcs_on {l : List UInt8} {a b : Nat} (hb : b < l.length) (hab : a ≤ b) (h : l[b] ≠ 47) : pcs ((l.take b).drop a) (l.drop b) = pcs ((l.take (b + 1)).drop a) (l.drop (b + 1)) := by
  rw [List.drop_eq_getElem_cons hb, pcs, if_neg h, List.take_succ_eq_append_getElem hb, List.drop_append_of_le_length (by simp; omega)]
theorem pcs_end {l : List UInt8} {a b : Nat} (hb : l.length ≤ b) : pcs ((l.take b).drop a) (l.drop b) = [(l.take b).drop a] := by
  rw [List.drop_eq_nil_of_le hb, pcs]

theorem pieces_tells {w : World} {l : List UInt8} {Bn : Nat} (hc : w.cell? ⟨Bn, 0, none⟩ = some (.string (str l))) (hBw : Bn < w.heap.size) (hl : l.length ≤ 1000000000) :
    Tells Try.prog 26 #[.pointer (some ⟨Bn, 0, none⟩)] (fun x => #[.string (str x)]) (fun k => k = Bn) (pcs [] l) w := by
  intro n lp J Jx W hW hJ hJx hY h0
  refine callsIn_wide.2 ?_
  have hc0 : W.cell? ⟨Bn, 0, none⟩ = some (.string (str l)) := (hW.cell (p := ⟨Bn, 0, none⟩) hBw).trans hc
  go_enter Try.func26, Try.ntmps26
  go_wp2
  go_step3
  go_wp2
  go_step3
  go_wp2
  have hsz := str_size l
  go_loopw [3, 4] (fun f i wr => ∃ (a b : Nat) (pre : List (List UInt8)), f = .int .i64 a ∧ i = .int .i64 b ∧ wr.cell? ⟨Bn, 0, none⟩ = some (.string (str l)) ∧ J pre wr ∧ a ≤ b ∧
      ((b ≤ l.length ∧ pre ++ pcs ((l.take b).drop a) (l.drop b) = pcs [] l) ∨ (b = l.length + 1 ∧ pre = pcs [] l))) (fun _ i _ => l.length + 2 - (intOf i).toNat)
  case atStart => exact ⟨0, 0, [], rfl, rfl, hc0, h0, Nat.le_refl _, .inl ⟨Nat.zero_le _, by simp⟩⟩
  case round =>
    obtain ⟨a, b, pre, rfl, rfl, hcr, hJr, hab, hcase⟩ := hrel
    rcases hcase with ⟨hb, hp⟩ | ⟨rfl, rfl⟩
    · have Hp := Lib.hid hp
      clear hp
      have hext := str_extract l a b
      have hlen : pre.length < (pcs [] l).length := by
        rw [← Hp.out, List.length_append]
        have := pcs_pos ((l.take b).drop a) (l.drop b)
        omega
      by_cases hlt : b < l.length
      · by_cases h47 : l[b] = 47
        · have hx : ((((str l)[b]'(by rw [str_size]; exact hlt)).toNat : Int) != 47) = false := by rw [str_get, h47]; rfl
          have Hq := Lib.hid (Hp.out.symm.trans (by rw [pcs_cut hlt h47]) : pcs [] l = pre ++ (l.take b).drop a :: pcs ((l.take (b + 1)).drop (b + 1)) (l.drop (b + 1)))
          go_upto_region 5 with (fail)
          refine (wpIn_wide (n := n)).1 ?_
          obtain ⟨fn, tmps, assign, body, hy, hR⟩ := hY pre ((l.take b).drop a) wr hJr hlen
          gi_wp2
          refine ⟨fun h => (by cases h), hR.mono ?_⟩
          rintro e W3 (⟨rfl, hJ3, hk3⟩ | ⟨rfl, hJx3⟩)
          · have hc3 : W3.cell? ⟨Bn, 0, none⟩ = some (.string (str l)) := hk3.cell (p := ⟨Bn, 0, none⟩) hcr rfl
            gi_wp2
            go_wp2
            go_roundw
            case rel => exact ⟨b + 1, b + 1, pre ++ [(l.take b).drop a], by go_num, by go_num, hc3, hJ3, Nat.le_refl _, .inl ⟨by omega, by rw [Hq.out]; simp⟩⟩
            case measure => simp [intOf]; omega
          · gi_wp2
            go_wp2
            rw [Exit.noGoto_ret]
            refine bodyPost_ret (results_none rfl _ _ _) rfl ?_
            exact ⟨⟨_, rfl⟩, .inr ⟨pre ++ [(l.take b).drop a], ⟨pcs ((l.take (b + 1)).drop (b + 1)) (l.drop (b + 1)), by rw [Hq.out]; simp⟩, hJx3⟩⟩
        · have hx : ((((str l)[b]'(by rw [str_size]; exact hlt)).toNat : Int) != 47) = true := by
            rw [str_get, bne_iff_ne]
            intro e
            have e' : l[b].toNat = 47 := by omega
            exact h47 (UInt8.toNat_inj.1 e')
          go_wp2
          go_roundw
          case rel => exact ⟨a, b + 1, pre, rfl, by go_num, hcr, hJr, by omega, .inl ⟨by omega, by rw [← pcs_on hlt hab h47]; exact Hp.out⟩⟩
          case measure => simp [intOf]; omega
      · obtain rfl : b = l.length := by omega
        rw [List.take_length] at hext
        have Hq := Lib.hid (Hp.out.symm.trans (by rw [pcs_end (Nat.le_refl _), List.take_length]) : pcs [] l = pre ++ [l.drop a])
        go_upto_region 5 with (fail)
        refine (wpIn_wide (n := n)).1 ?_
        obtain ⟨fn, tmps, assign, body, hy, hR⟩ := hY pre (l.drop a) wr hJr hlen
        gi_wp2
        refine ⟨fun h => (by cases h), hR.mono ?_⟩
        rintro e W3 (⟨rfl, hJ3, hk3⟩ | ⟨rfl, hJx3⟩)
        · have hc3 : W3.cell? ⟨Bn, 0, none⟩ = some (.string (str l)) := hk3.cell (p := ⟨Bn, 0, none⟩) hcr rfl
          gi_wp2
          go_wp2
          go_roundw
          case rel => exact ⟨l.length + 1, l.length + 1, pre ++ [l.drop a], by go_num, by go_num, hc3, hJ3, Nat.le_refl _, .inr ⟨rfl, Hq.out.symm⟩⟩
          case measure => simp [intOf]
        · gi_wp2
          go_wp2
          rw [Exit.noGoto_ret]
          refine bodyPost_ret (results_none rfl _ _ _) rfl ?_
          exact ⟨⟨_, rfl⟩, .inr ⟨pre ++ [l.drop a], ⟨[], by rw [Hq.out]; simp⟩, hJx3⟩⟩
    · go_wp2
      (try rw [Exit.noGoto_normal])
      go_end0
      exact ⟨⟨_, rfl⟩, .inl ⟨_, rfl, hJr⟩⟩
end Go.Proofs.Ytplcoielgencfaa
