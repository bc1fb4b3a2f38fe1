/- A text in pieces: its sum, and that of all that came so far. -/
import Derived.Test.YtjmjdffnakojpaaRefSum
import Derived.Test.YtjmjdffnakojpaaRunSum
import Derived.Test.YtjmjdffnakojpaaAwake02
import Derived.Test.YtjmjdffnakojpaaByteRows
namespace Go.Proofs.Ytjmjdffnakojpaa
open Go.RowKit
set_option linter.unusedVariables false
set_option linter.unusedSimpArgs false

def catM (ps : List RowAt) (k : Nat) : List UInt8 := (ps.take k).flatMap (·.l)
theorem catM_succ (ps : List RowAt) {k : Nat} (h : k < ps.length) : catM ps (k + 1) = catM ps k ++ (ps[k]).l := by
  rw [catM, List.take_succ_eq_append_getElem h, List.flatMap_append, List.flatMap_cons, List.flatMap_nil, List.append_nil, catM]

set_option maxRecDepth 100000 in
set_option maxHeartbeats 1000000 in
theorem walk_ShaPieces {w0 : World} {ps : List RowAt} {A : Option Addr} {n c : Nat} {at_ : Int} (hl : Sl w0 A n c 1 (ps.flatMap rowc) ∧ RowsIs w0 ps) (hat : (Lit.int .i64 at_).wf = true) :
    Calls Try.prog 7 #[.slice A n c, .int .i64 at_] w0 fun e w' => e = .returned (.bool true) ∧ Below w0.heap.size w0 w' := by
  have h := St.rows0 hl.1 hl.2
  have hn := hl.1.n_rows
  have Hn := Lib.hid hn
  clear hl hat hn
  by_cases hn : n ≤ 20
  · have hd : decide ((20 : Int) < (n : Int)) = false := by simp; omega
    go_enter Try.func7, Try.ntmps7
    go_wp2_with (first
      | (go_at_call 12; refine (sha_awake _).mono ?_; rintro e w ⟨rfl, hs⟩; replace h := h.quiet hs; clear hs)
      | (go_at_call 23; refine (begin_code h).mono ?_; clear h; rintro e w ⟨g, rfl, h⟩)
      | (refine wl_reads rfl (ex_load1 h _ _ rfl _ _ rfl) ?_) | (refine wl_reads rfl (ex_load h _ _ rfl _ _ rfl) ?_) | (refine wl_runs rfl (ex_store1i h _ _ _ rfl _ _ rfl _ _ rfl) ?_; clear h; rintro _ w ⟨rfl, h⟩; try dsimp only [Act.put]) | (refine wl_runs rfl (ex_store1s h _ _ _ rfl _ _ rfl _ _ _ rfl) ?_; clear h; rintro _ w ⟨rfl, h⟩; try dsimp only [Act.put]) | (refine wl_runs rfl (ex_store1b h _ _ _ rfl _ _ rfl _ rfl) ?_; clear h; rintro _ w ⟨rfl, h⟩; try dsimp only [Act.put]) | (refine wl_runs rfl (ex_store1t h _ _ _ rfl _ _ rfl _ rfl) ?_; clear h; rintro _ w ⟨rfl, h⟩; try dsimp only [Act.put]) | (refine wl_runs rfl (ex_store1p h _ _ _ rfl _ _ rfl _ rfl) ?_; clear h; rintro _ w ⟨rfl, h⟩; try dsimp only [Act.put]) | (refine wl_runs rfl (ex_store1m h _ _ _ rfl _ _ rfl _ rfl) ?_; clear h; rintro _ w ⟨rfl, h⟩; try dsimp only [Act.put]) | (refine wl_runs rfl (ex_store h _ _ _ rfl _ _ rfl _ rfl) ?_; clear h; rintro _ w ⟨rfl, h⟩; try dsimp only [Act.put]) | (refine wl_runs rfl (ex_alloc h _ rfl) ?_; clear h; rintro _ w ⟨g, rfl, h⟩) | (refine wl_runs rfl (ex_box h _ _ rfl _ rfl) ?_; clear h; rintro _ w ⟨g, rfl, h⟩) | (refine wl_runs rfl (ex_box1i h _ _ rfl _ _ rfl) ?_; clear h; rintro _ w ⟨g, rfl, h⟩) | (refine wl_runs rfl (ex_box1s h _ _ rfl _ _ _ rfl) ?_; clear h; rintro _ w ⟨g, rfl, h⟩) | (refine wl_runs rfl (ex_box1b h _ _ rfl _ rfl) ?_; clear h; rintro _ w ⟨g, rfl, h⟩) | (refine wl_runs rfl (ex_box1t h _ _ rfl _ rfl) ?_; clear h; rintro _ w ⟨g, rfl, h⟩) | (refine wl_runs rfl (ex_box1p h _ _ rfl _ rfl) ?_; clear h; rintro _ w ⟨g, rfl, h⟩) | (refine wl_runs rfl (ex_box1m h _ _ rfl _ rfl) ?_; clear h; rintro _ w ⟨g, rfl, h⟩) | (refine wl_runs rfl (ex_slice1 h _ _ rfl _ rfl) ?_; clear h; rintro _ w ⟨g, rfl, h⟩) | (refine wl_runs rfl (ex_slice1i h _ _ rfl _ _ rfl) ?_; clear h; rintro _ w ⟨g, rfl, h⟩) | (refine wl_runs rfl (ex_slice1s h _ _ rfl _ _ _ rfl) ?_; clear h; rintro _ w ⟨g, rfl, h⟩) | (refine wl_runs rfl (ex_slice1b h _ _ rfl _ rfl) ?_; clear h; rintro _ w ⟨g, rfl, h⟩) | (refine wl_runs rfl (ex_slice1t h _ _ rfl _ rfl) ?_; clear h; rintro _ w ⟨g, rfl, h⟩) | (refine wl_runs rfl (ex_slice1p h _ _ rfl _ rfl) ?_; clear h; rintro _ w ⟨g, rfl, h⟩) | (refine wl_runs rfl (ex_slice1m h _ _ rfl _ rfl) ?_; clear h; rintro _ w ⟨g, rfl, h⟩) | (refine wl_reads rfl (ex_lit0 _ rfl) ?_))
    replace h := h.nilRow 5 1
    go_loopw [6, 19] (fun v x wr => ∃ (j : Nat) (A2 : Option Addr) (n2 c2 : Nat) (A1 : Option Addr) (n1 c1 : Nat), v = .slice A2 n2 c2 ∧ x = .int .i64 (j : Int) ∧ j ≤ n ∧ n2 ≤ 300 * j ∧ St (fun _ => False) w0 wr [eOwn 5 1 A2 n2 c2 (u8s (catM ps j)), eRun g A1 n1 c1 (catM ps j), eRows A n c ps]) (fun _ x _ => n - (intOf x).toNat)
    case atStart => exact ⟨0, none, 0, 0, none, 0, 0, rfl, rfl, by omega, by omega, h⟩
    case round =>
      clear h
      obtain ⟨j, A2, n2, c2, A1, n1, c1, rfl, rfl, hj, hn2, h⟩ := hrel
      have hn2l := (h.sl A2 n2 c2).n_eq
      have Hn2l := Lib.hid hn2l
      have hcl : (catM ps j).length ≤ 6000 := by omega
      clear hn2l
      by_cases hlt : j < n
      · have hjp : j < ps.length := by have := Hn.out; omega
        have hcs := catM_succ ps hjp
        obtain ⟨b, off, rfl, hcel⟩ := (h.sl A n c).elem (f := rowc) rowc_length hjp (by omega)
        have hc1 : wr.cell? ⟨b, off + j, none⟩ = some (.slice (ps[j]).A (ps[j]).n (ps[j]).c) := by
          have := hcel 0 _ rfl
          rwa [Nat.mul_one, Nat.add_zero] at this
        replace h := h.oneRow (some ⟨b, off, none⟩) n c (List.getElem_mem hjp)
        generalize ps[j] = p at *
        obtain ⟨B, m, d, bl⟩ := p
        have hml := (h.sl B m d).n_eq
        have Hml := Lib.hid hml
        have Hcs := Lib.hid hcs
        have f1 : (j : Int) < (n : Int) := by omega
        clear hml hcs hcel
        dsimp only at h hc1 Hml Hcs
        by_cases hm3 : m ≤ 300
        · have f2 : decide ((300 : Int) < (m : Int)) = false := by simp; omega
          have hsl := sumM_length (catM ps j ++ bl)
          have hall : (catM ps j ++ bl).length ≤ 100000000 := by rw [List.length_append, ← Hml.out]; omega
          have Hsl := Lib.hid hsl
          have Hall := Lib.hid hall
          clear hsl hall
          by_cases hja : (j : Int) = at_
          · have f3 : ((j : Int) == at_) = true := by simpa using hja
            clear hja
            go_wp2_with (first
              | (refine wl_reads rfl (ex_load1_at _ _ rfl b (off + j) rfl _ hc1) ?_)
              | (go_at_call 21; refine (more_code h (by omega)).mono ?_; clear h; rintro e w ⟨⟨v, rfl⟩, A3, n3, c3, h⟩)
              | (refine wl_runs rfl (ex_append h _ _ _ rfl A2 rfl B m d rfl (h.sl B m d) (u8s_one _) (by simp [maxLen]; omega) (by omega)) ?_; clear h; rintro _ w ⟨A4, c4, rfl, h⟩; rw [u8s_append] at h)
              | (go_at_call 22; refine (rsum_code h Hall.out).mono ?_; clear h; rintro e w ⟨rfl, h⟩)
              | (go_at_call 14; refine (sum_ref (h.sl A4 (n2 + m) c4) (by omega)).mono ?_; rintro e w ⟨rfl, hs⟩; replace h := h.quiet hs; clear hs)
              | (refine wl_reads rfl (ex_neq _ _ _ _ rfl (sumM (catM ps j ++ bl)) (sumM (catM ps j ++ bl)) rfl rfl Hsl.out Hsl.out false (by simp)) ?_))
            refine ⟨⟨j + 1, A4, n2 + m, c4, A3, n3, c3, rfl, by go_num, by omega, by omega, ?_⟩, by simp only [intOf]; omega⟩
            rw [Hcs.out]
            exact h.to
          · have f3 : ((j : Int) == at_) = false := by simpa using hja
            go_wp2_with (first
              | (refine wl_reads rfl (ex_load1_at _ _ rfl b (off + j) rfl _ hc1) ?_)
              | (go_at_call 21; refine (more_code h (by omega)).mono ?_; clear h; rintro e w ⟨⟨v, rfl⟩, A3, n3, c3, h⟩)
              | (refine wl_runs rfl (ex_append h _ _ _ rfl A2 rfl B m d rfl (h.sl B m d) (u8s_one _) (by simp [maxLen]; omega) (by omega)) ?_; clear h; rintro _ w ⟨A4, c4, rfl, h⟩; rw [u8s_append] at h))
            refine ⟨⟨j + 1, A4, n2 + m, c4, A3, n3, c3, rfl, by go_num, by omega, by omega, ?_⟩, by simp only [intOf]; omega⟩
            rw [Hcs.out]
            exact h.to
        · have f2 : decide ((300 : Int) < (m : Int)) = true := by simp; omega
          go_wp2_with (first
            | (refine wl_reads rfl (ex_load1_at _ _ rfl b (off + j) rfl _ hc1) ?_))
          go_ret
          exact ⟨rfl, h.step.below⟩
      · have hsl := sumM_length (catM ps j)
        go_wp2_with (first
          | (go_at_call 22; refine (rsum_code h (by omega)).mono ?_; clear h; rintro e w ⟨rfl, h⟩)
          | (go_at_call 14; refine (sum_ref (h.sl A2 n2 c2) (by omega)).mono ?_; rintro e w ⟨rfl, hs⟩; replace h := h.quiet hs; clear hs)
          | (refine wl_reads rfl (ex_eq _ _ _ _ rfl (sumM (catM ps j)) (sumM (catM ps j)) rfl rfl hsl hsl true (by simp)) ?_))
        go_ret
        exact ⟨rfl, h.step.below⟩
  · have hd : decide ((20 : Int) < (n : Int)) = true := by simp; omega
    go_enter Try.func7, Try.ntmps7
    go_wp2_with (first
      | (go_at_call 12; refine (sha_awake _).mono ?_; rintro e w ⟨rfl, hs⟩; replace h := h.quiet hs; clear hs))
    go_ret
    exact ⟨rfl, h.step.below⟩
end Go.Proofs.Ytjmjdffnakojpaa
