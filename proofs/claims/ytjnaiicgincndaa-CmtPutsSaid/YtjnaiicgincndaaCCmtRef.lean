/- The reference's commits that are alike; the example; which are small. -/
import Derived.Test.YtjnaiicgincndaaCIdsSame
import Derived.Test.YtjnaiicgincndaaCCmtNext
namespace Go.Proofs.Ytjnaiicgincndaa
open Go.RowKit

set_option maxRecDepth 100000 in
set_option maxHeartbeats 9000000 in
theorem same_ref {w : World} {A B : Option Addr} {n c m d : Nat} {x y : Cmt} (h : Sl w A n c 32 (x.pa.flatMap idc)) (h' : Sl w B m d 32 (y.pa.flatMap idc)) (hb : x.pa.length ≤ 1000000000) :
    Calls Try.prog 16 #[.agg (cmtc A n c x).toArray, .agg (cmtc B m d y).toArray] w fun e w' => e = .returned (.bool (decide (x = y))) ∧ Step (fun _ => False) w w' := by
  have hex : (decide (x = y)) = (decide (x.pa = y.pa) && decide (x.root = y.root) && decide (x.key = y.key) && decide (x.seq = y.seq) && decide (x.author = y.author) && decide (x.text = y.text)) := by
    rw [Bool.eq_iff_iff]
    cases x; cases y
    simp only [Cmt.mk.injEq, Bool.and_eq_true, decide_eq_true_eq]
    exact ⟨fun ⟨a, b, c, d, e, f⟩ => ⟨⟨⟨⟨⟨a, b⟩, c⟩, d⟩, e⟩, f⟩, fun ⟨⟨⟨⟨⟨a, b⟩, c⟩, d⟩, e⟩, f⟩ => ⟨a, b, c, d, e, f⟩⟩
  have Hx := Lib.hid hex
  clear hex
  obtain ⟨i0, hi, _, hz1, _⟩ := info_parts byte_info
  have hqr := fun W => run_equalIn_id (P := Try.prog) (t := 26) Try.underlying26 Try.underlying5 hi hz1 x.root y.root W
  have hqk := fun W => run_equalIn_id (P := Try.prog) (t := 27) Try.underlying27 Try.underlying5 hi hz1 x.key y.key W
  clear hi hz1
  have hto1 := str_toList x.text
  have hto2 := str_toList y.text
  go_enter Try.func16, Try.ntmps16
  by_cases hp : x.pa = y.pa
  · have Hp := Lib.hid hp
    clear hp
    by_cases hr : x.root = y.root
    · simp only [decide_eq_true hr] at hqr
      have Hr := Lib.hid hr
      clear hr
      by_cases hk : x.key = y.key
      · simp only [decide_eq_true hk] at hqk
        have Hk := Lib.hid hk
        clear hk
        by_cases hs : x.seq = y.seq
        · have hs' : (x.seq == y.seq) = true := by simpa using hs
          have Hs := Lib.hid hs
          clear hs
          by_cases hu : x.author = y.author
          · have hu' : (x.author == y.author) = true := by simpa using hu
            have Hu := Lib.hid hu
            clear hu
            by_cases ht : x.text = y.text
            · have ht' : (x.text == y.text) = true := by simpa using ht
              have Ht := Lib.hid ht
              clear ht
              go_wp2_with (first
                | (refine wl_box rfl 31 (.tmp 0) rfl (.agg (cmtc A n c x).toArray) rfl ?_; intro w1 hb1 hS1 hw; clear hw)
                | (refine wl_box rfl 31 (.tmp 1) rfl (.agg (cmtc B m d y).toArray) rfl ?_; intro w2 hb2 hS2 hw; clear hw; have hc1 : Cells w2 w.heap.size 0 (cmtc A n c x) := (hb1.step hS2 id).cells; have hc2 : Cells w2 w1.heap.size 0 (cmtc B m d y) := hb2.cells; have g1 := (cmt_fields hc1).1; have g2 := (cmt_fields hc2).1)
                | (go_at_call 20; refine (same_ids ((h.keep hS1).keep hS2) ((h'.keep hS1).keep hS2) hb).mono ?_; rintro e w3 ⟨rfl, q, rfl⟩; rw [decide_eq_true Hp.out]; obtain ⟨-, r1, k1, q1, u1, t1⟩ := cmt_fields (cells_drew hc1 _ ⟨q, rfl⟩); obtain ⟨-, r2, k2, q2, u2, t2⟩ := cmt_fields (cells_drew hc2 _ ⟨q, rfl⟩); simp only [Nat.zero_add] at r1 k1 q1 u1 t1 r2 k2 q2 u2 t2; clear g1 g2 hc1 hc2)
                | (refine wl_load rfl 26 _ rfl w.heap.size 1 rfl (idc x.root) _ Try.underlying26 rfl (by rw [id_size, idc_length]) r1 ?_)
                | (refine wl_load rfl 26 _ rfl w1.heap.size 1 rfl (idc y.root) _ Try.underlying26 rfl (by rw [id_size, idc_length]) r2 ?_)
                | (refine wl_load rfl 27 _ rfl w.heap.size 33 rfl (idc x.key) _ Try.underlying27 rfl (by rw [key_size', idc_length]) k1 ?_)
                | (refine wl_load rfl 27 _ rfl w1.heap.size 33 rfl (idc y.key) _ Try.underlying27 rfl (by rw [key_size', idc_length]) k2 ?_))
              go_ret
              exact ⟨by rw [Hx.out, decide_eq_true Hp.out, decide_eq_true Hr.out, decide_eq_true Hk.out, decide_eq_true Hs.out, decide_eq_true Hu.out, decide_eq_true Ht.out]; simp, (hS1.tr hS2).drewN q⟩
            · have ht' : (x.text == y.text) = false := by simpa using ht
              go_wp2_with (first
                | (refine wl_box rfl 31 (.tmp 0) rfl (.agg (cmtc A n c x).toArray) rfl ?_; intro w1 hb1 hS1 hw; clear hw)
                | (refine wl_box rfl 31 (.tmp 1) rfl (.agg (cmtc B m d y).toArray) rfl ?_; intro w2 hb2 hS2 hw; clear hw; have hc1 : Cells w2 w.heap.size 0 (cmtc A n c x) := (hb1.step hS2 id).cells; have hc2 : Cells w2 w1.heap.size 0 (cmtc B m d y) := hb2.cells; have g1 := (cmt_fields hc1).1; have g2 := (cmt_fields hc2).1)
                | (go_at_call 20; refine (same_ids ((h.keep hS1).keep hS2) ((h'.keep hS1).keep hS2) hb).mono ?_; rintro e w3 ⟨rfl, q, rfl⟩; rw [decide_eq_true Hp.out]; obtain ⟨-, r1, k1, q1, u1, t1⟩ := cmt_fields (cells_drew hc1 _ ⟨q, rfl⟩); obtain ⟨-, r2, k2, q2, u2, t2⟩ := cmt_fields (cells_drew hc2 _ ⟨q, rfl⟩); simp only [Nat.zero_add] at r1 k1 q1 u1 t1 r2 k2 q2 u2 t2; clear g1 g2 hc1 hc2)
                | (refine wl_load rfl 26 _ rfl w.heap.size 1 rfl (idc x.root) _ Try.underlying26 rfl (by rw [id_size, idc_length]) r1 ?_)
                | (refine wl_load rfl 26 _ rfl w1.heap.size 1 rfl (idc y.root) _ Try.underlying26 rfl (by rw [id_size, idc_length]) r2 ?_)
                | (refine wl_load rfl 27 _ rfl w.heap.size 33 rfl (idc x.key) _ Try.underlying27 rfl (by rw [key_size', idc_length]) k1 ?_)
                | (refine wl_load rfl 27 _ rfl w1.heap.size 33 rfl (idc y.key) _ Try.underlying27 rfl (by rw [key_size', idc_length]) k2 ?_))
              go_ret
              exact ⟨by rw [Hx.out, decide_eq_false ht]; simp, (hS1.tr hS2).drewN q⟩
          · have hu' : (x.author == y.author) = false := by simpa using hu
            go_wp2_with (first
              | (refine wl_box rfl 31 (.tmp 0) rfl (.agg (cmtc A n c x).toArray) rfl ?_; intro w1 hb1 hS1 hw; clear hw)
              | (refine wl_box rfl 31 (.tmp 1) rfl (.agg (cmtc B m d y).toArray) rfl ?_; intro w2 hb2 hS2 hw; clear hw; have hc1 : Cells w2 w.heap.size 0 (cmtc A n c x) := (hb1.step hS2 id).cells; have hc2 : Cells w2 w1.heap.size 0 (cmtc B m d y) := hb2.cells; have g1 := (cmt_fields hc1).1; have g2 := (cmt_fields hc2).1)
              | (go_at_call 20; refine (same_ids ((h.keep hS1).keep hS2) ((h'.keep hS1).keep hS2) hb).mono ?_; rintro e w3 ⟨rfl, q, rfl⟩; rw [decide_eq_true Hp.out]; obtain ⟨-, r1, k1, q1, u1, t1⟩ := cmt_fields (cells_drew hc1 _ ⟨q, rfl⟩); obtain ⟨-, r2, k2, q2, u2, t2⟩ := cmt_fields (cells_drew hc2 _ ⟨q, rfl⟩); simp only [Nat.zero_add] at r1 k1 q1 u1 t1 r2 k2 q2 u2 t2; clear g1 g2 hc1 hc2)
              | (refine wl_load rfl 26 _ rfl w.heap.size 1 rfl (idc x.root) _ Try.underlying26 rfl (by rw [id_size, idc_length]) r1 ?_)
              | (refine wl_load rfl 26 _ rfl w1.heap.size 1 rfl (idc y.root) _ Try.underlying26 rfl (by rw [id_size, idc_length]) r2 ?_)
              | (refine wl_load rfl 27 _ rfl w.heap.size 33 rfl (idc x.key) _ Try.underlying27 rfl (by rw [key_size', idc_length]) k1 ?_)
              | (refine wl_load rfl 27 _ rfl w1.heap.size 33 rfl (idc y.key) _ Try.underlying27 rfl (by rw [key_size', idc_length]) k2 ?_))
            go_ret
            exact ⟨by rw [Hx.out, decide_eq_false hu]; simp, (hS1.tr hS2).drewN q⟩
        · have hs' : (x.seq == y.seq) = false := by simpa using hs
          go_wp2_with (first
            | (refine wl_box rfl 31 (.tmp 0) rfl (.agg (cmtc A n c x).toArray) rfl ?_; intro w1 hb1 hS1 hw; clear hw)
            | (refine wl_box rfl 31 (.tmp 1) rfl (.agg (cmtc B m d y).toArray) rfl ?_; intro w2 hb2 hS2 hw; clear hw; have hc1 : Cells w2 w.heap.size 0 (cmtc A n c x) := (hb1.step hS2 id).cells; have hc2 : Cells w2 w1.heap.size 0 (cmtc B m d y) := hb2.cells; have g1 := (cmt_fields hc1).1; have g2 := (cmt_fields hc2).1)
            | (go_at_call 20; refine (same_ids ((h.keep hS1).keep hS2) ((h'.keep hS1).keep hS2) hb).mono ?_; rintro e w3 ⟨rfl, q, rfl⟩; rw [decide_eq_true Hp.out]; obtain ⟨-, r1, k1, q1, u1, t1⟩ := cmt_fields (cells_drew hc1 _ ⟨q, rfl⟩); obtain ⟨-, r2, k2, q2, u2, t2⟩ := cmt_fields (cells_drew hc2 _ ⟨q, rfl⟩); simp only [Nat.zero_add] at r1 k1 q1 u1 t1 r2 k2 q2 u2 t2; clear g1 g2 hc1 hc2)
            | (refine wl_load rfl 26 _ rfl w.heap.size 1 rfl (idc x.root) _ Try.underlying26 rfl (by rw [id_size, idc_length]) r1 ?_)
            | (refine wl_load rfl 26 _ rfl w1.heap.size 1 rfl (idc y.root) _ Try.underlying26 rfl (by rw [id_size, idc_length]) r2 ?_)
            | (refine wl_load rfl 27 _ rfl w.heap.size 33 rfl (idc x.key) _ Try.underlying27 rfl (by rw [key_size', idc_length]) k1 ?_)
            | (refine wl_load rfl 27 _ rfl w1.heap.size 33 rfl (idc y.key) _ Try.underlying27 rfl (by rw [key_size', idc_length]) k2 ?_))
          go_ret
          exact ⟨by rw [Hx.out, decide_eq_false hs]; simp, (hS1.tr hS2).drewN q⟩
      · simp only [decide_eq_false hk] at hqk
        go_wp2_with (first
          | (refine wl_box rfl 31 (.tmp 0) rfl (.agg (cmtc A n c x).toArray) rfl ?_; intro w1 hb1 hS1 hw; clear hw)
          | (refine wl_box rfl 31 (.tmp 1) rfl (.agg (cmtc B m d y).toArray) rfl ?_; intro w2 hb2 hS2 hw; clear hw; have hc1 : Cells w2 w.heap.size 0 (cmtc A n c x) := (hb1.step hS2 id).cells; have hc2 : Cells w2 w1.heap.size 0 (cmtc B m d y) := hb2.cells; have g1 := (cmt_fields hc1).1; have g2 := (cmt_fields hc2).1)
          | (go_at_call 20; refine (same_ids ((h.keep hS1).keep hS2) ((h'.keep hS1).keep hS2) hb).mono ?_; rintro e w3 ⟨rfl, q, rfl⟩; rw [decide_eq_true Hp.out]; obtain ⟨-, r1, k1, q1, u1, t1⟩ := cmt_fields (cells_drew hc1 _ ⟨q, rfl⟩); obtain ⟨-, r2, k2, q2, u2, t2⟩ := cmt_fields (cells_drew hc2 _ ⟨q, rfl⟩); simp only [Nat.zero_add] at r1 k1 q1 u1 t1 r2 k2 q2 u2 t2; clear g1 g2 hc1 hc2)
          | (refine wl_load rfl 26 _ rfl w.heap.size 1 rfl (idc x.root) _ Try.underlying26 rfl (by rw [id_size, idc_length]) r1 ?_)
          | (refine wl_load rfl 26 _ rfl w1.heap.size 1 rfl (idc y.root) _ Try.underlying26 rfl (by rw [id_size, idc_length]) r2 ?_)
          | (refine wl_load rfl 27 _ rfl w.heap.size 33 rfl (idc x.key) _ Try.underlying27 rfl (by rw [key_size', idc_length]) k1 ?_)
          | (refine wl_load rfl 27 _ rfl w1.heap.size 33 rfl (idc y.key) _ Try.underlying27 rfl (by rw [key_size', idc_length]) k2 ?_))
        go_ret
        exact ⟨by rw [Hx.out, decide_eq_false hk]; simp, (hS1.tr hS2).drewN q⟩
    · simp only [decide_eq_false hr] at hqr
      go_wp2_with (first
        | (refine wl_box rfl 31 (.tmp 0) rfl (.agg (cmtc A n c x).toArray) rfl ?_; intro w1 hb1 hS1 hw; clear hw)
        | (refine wl_box rfl 31 (.tmp 1) rfl (.agg (cmtc B m d y).toArray) rfl ?_; intro w2 hb2 hS2 hw; clear hw; have hc1 : Cells w2 w.heap.size 0 (cmtc A n c x) := (hb1.step hS2 id).cells; have hc2 : Cells w2 w1.heap.size 0 (cmtc B m d y) := hb2.cells; have g1 := (cmt_fields hc1).1; have g2 := (cmt_fields hc2).1)
        | (go_at_call 20; refine (same_ids ((h.keep hS1).keep hS2) ((h'.keep hS1).keep hS2) hb).mono ?_; rintro e w3 ⟨rfl, q, rfl⟩; rw [decide_eq_true Hp.out]; obtain ⟨-, r1, k1, q1, u1, t1⟩ := cmt_fields (cells_drew hc1 _ ⟨q, rfl⟩); obtain ⟨-, r2, k2, q2, u2, t2⟩ := cmt_fields (cells_drew hc2 _ ⟨q, rfl⟩); simp only [Nat.zero_add] at r1 k1 q1 u1 t1 r2 k2 q2 u2 t2; clear g1 g2 hc1 hc2)
        | (refine wl_load rfl 26 _ rfl w.heap.size 1 rfl (idc x.root) _ Try.underlying26 rfl (by rw [id_size, idc_length]) r1 ?_)
        | (refine wl_load rfl 26 _ rfl w1.heap.size 1 rfl (idc y.root) _ Try.underlying26 rfl (by rw [id_size, idc_length]) r2 ?_))
      go_ret
      exact ⟨by rw [Hx.out, decide_eq_false hr]; simp, (hS1.tr hS2).drewN q⟩
  · go_wp2_with (first
      | (refine wl_box rfl 31 (.tmp 0) rfl (.agg (cmtc A n c x).toArray) rfl ?_; intro w1 hb1 hS1 hw; clear hw)
      | (refine wl_box rfl 31 (.tmp 1) rfl (.agg (cmtc B m d y).toArray) rfl ?_; intro w2 hb2 hS2 hw; clear hw; have hc1 : Cells w2 w.heap.size 0 (cmtc A n c x) := (hb1.step hS2 id).cells; have hc2 : Cells w2 w1.heap.size 0 (cmtc B m d y) := hb2.cells; have g1 := (cmt_fields hc1).1; have g2 := (cmt_fields hc2).1)
      | (go_at_call 20; refine (same_ids ((h.keep hS1).keep hS2) ((h'.keep hS1).keep hS2) hb).mono ?_; rintro e w3 ⟨rfl, q, rfl⟩; rw [decide_eq_false hp]; obtain ⟨-, r1, k1, q1, u1, t1⟩ := cmt_fields (cells_drew hc1 _ ⟨q, rfl⟩); obtain ⟨-, r2, k2, q2, u2, t2⟩ := cmt_fields (cells_drew hc2 _ ⟨q, rfl⟩); simp only [Nat.zero_add] at r1 k1 q1 u1 t1 r2 k2 q2 u2 t2; clear g1 g2 hc1 hc2))
    go_ret
    exact ⟨by rw [Hx.out, decide_eq_false hp]; simp, (hS1.tr hS2).drewN q⟩
end Go.Proofs.Ytjnaiicgincndaa
