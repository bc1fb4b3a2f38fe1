/- A block taken in, by the reference. -/
import Derived.Test.YtcmgjoamfjijhaaCComprM
import Derived.Test.YtcmgjoamfjijhaaCSchedRef
namespace Go.Proofs.Ytcmgjoamfjijhaa
open Go.RowKit

theorem block_size' : (Try.prog.info? 120).map (·.size) = some 64 := by kernel_rfl
theorem w_not' (x : UInt32) : bits .xor .u32 (if IntKind.u32.signed = true then -1 else IntKind.u32.max) (x.toNat : Int) = ((notW x).toNat : Int) := by
  rw [if_neg (by decide), show IntKind.u32.max = 4294967295 by decide]
  have h : bits .xor .u32 4294967295 (x.toNat : Int) = ((4294967295 - x.toNat : Nat) : Int) := by
    show IntKind.u32.wrap ((BitVec.ofInt 32 4294967295 ^^^ BitVec.ofInt 32 (x.toNat : Int)).toNat : Int) = _
    rw [show BitVec.ofInt 32 4294967295 = BitVec.allOnes 32 by decide, BitVec.allOnes_xor, BitVec.toNat_not, ofInt_u32 _ (w_lt x), IntKind.wrap_u32']
    have := w_lt x
    omega
  rw [h, notW, UInt32.toNat_not]
  rfl
set_option linter.unusedSimpArgs false
set_option maxRecDepth 100000 in
set_option maxHeartbeats 4000000 in
theorem compr_ref {w : World} {b : List UInt8} {L : List UInt32} (hb : b.length = 64) (hl : L.length = 8) :
    Calls Try.prog 109 #[.agg (w32s L).toArray, arr b] w fun e w' => e = .returned (.agg (w32s (compM L b)).toArray) ∧ Step (fun _ => False) w w' := by
  have hA := Lib.hid True.intro
  have hA2 := Lib.hid True.intro
  have hA3 := Lib.hid True.intro
  have Hb := Lib.hid hb
  have HL := Lib.hid hl
  have hW := schedAt_length b 64
  rw [schedM_def] at hW
  obtain ⟨W, hWe⟩ : ∃ W, schedM b = W := ⟨_, rfl⟩
  rw [hWe] at hW
  have HW := Lib.hid hW
  have HWe := Lib.hid hWe
  obtain ⟨K, hK⟩ : ∃ K, kT = K := ⟨_, rfl⟩
  have hKl : K.length = 64 := by rw [← hK]; rfl
  have HK := Lib.hid hK
  have HKl := Lib.hid hKl
  clear hb hl hW hWe hK hKl
  go_enter Try.func109, Try.ntmps109
  go_wp2_with (first
    | (clear hA; refine wl_box rfl 131 (.tmp 0) rfl (.agg (w32s L).toArray) rfl ?_; intro w1 hb1 hS1 hw; clear hw)
    | (refine wl_box rfl 120 (.tmp 1) rfl (arr b) rfl ?_; intro w2 hb2 hS2 hw; clear hw)
    | (clear hA2; refine wl_alloc rfl 131 rfl _ eight_zero ?_; intro w3 hb3 hS3 hw; clear hw; have hz1 := hb1.lt; have hz2 := hb2.lt; have hz3 := hb3.lt; have hz4 := hS2.size; have hc2 : Cells w3 w1.heap.size 0 (u8s b) := (hb2.step hS3 id).cells; replace hb1 : Blk w3 w.heap.size 131 (w32s L).toArray := (hb1.step hS2 id).step hS3 id; have hS03 := (hS1.tr hS2).tr hS3; clear hb2)
    | (refine wl_load rfl 120 _ rfl w1.heap.size 0 rfl (u8s b) _ Try.underlying120 rfl (by rw [block_size', u8s_length, Hb.out]) hc2 ?_; clear hc2)
    | (go_at_call 117; refine (sched_ref Hb.out).mono ?_; rintro e w4 ⟨rfl, hS4⟩; rw [HWe.out])
    | (go_at_call 118; refine table_ref.mono ?_; rintro e w5 ⟨rfl, hS5⟩; rw [HK.out])
    | (clear hA3; refine wl_alloc rfl 161 rfl _ words_zero ?_; intro w6 hb6 hS6 hw; clear hw; have hz5 := hb6.lt; replace hb6 : Blk w6 w5.heap.size 161 (w32s (List.replicate 64 0)).toArray := hb6)
    | (refine wl_alloc rfl 161 rfl _ words_zero ?_; intro w7 hb7 hS7 hw; clear hw; replace hb6 := hb6.step hS7 id; have hz6 := hb7.lt; have hz7 := hS4.size; have hz8 := hS5.size; have hz9 := hS6.size; have hz10 := hS7.size; replace hb7 : Blk w7 w6.heap.size 161 (w32s (List.replicate 64 0)).toArray := hb7)
    | (refine wl_store_all rfl 161 _ _ rfl w5.heap.size rfl (w32s W) rfl (by rw [words_size, w32s_length, HW.out]) (w32s_one _) 161 _ hb6 (by rw [List.size_toArray, w32s_length, w32s_length, HW.out, List.length_replicate]) ?_; intro w8 hb8 hS8 hz; replace hb7 := hb7.step hS8 (by omega); clear hb6; have Hz8 := Lib.hid hz; clear hz)
    | (refine wl_store_all rfl 161 _ _ rfl w6.heap.size rfl (w32s K) rfl (by rw [words_size, w32s_length, HKl.out]) (w32s_one _) 161 _ hb7 (by rw [List.size_toArray, w32s_length, w32s_length, HKl.out, List.length_replicate]) ?_; intro w9 hb9 hS9 hz; replace hb8 := hb8.step hS9 (by omega); clear hb7; have Hz9 := Lib.hid hz; clear hz; have hb1' : Blk w9 w.heap.size 131 (w32s L).toArray := (((((hb1.step hS4 id).step hS5 id).step hS6 id).step hS7 id).step hS8 (by omega)).step hS9 (by omega); have hc1 : Cells w9 w.heap.size 0 (w32s L) := hb1'.cells)
    | (refine wl_load rfl 131 _ rfl w.heap.size 0 rfl (w32s L) _ Try.underlying131 rfl (by rw [eight_size, w32s_length, HL.out]) hc1 ?_; clear hc1)
    | (refine wl_alloc rfl 131 rfl _ eight_zero ?_; intro w10 hb10 hS10 hw; clear hw; replace hb10 : Blk w10 w9.heap.size 131 (w32s (List.replicate 8 0)).toArray := hb10)
    | (refine wl_store_all rfl 131 _ _ rfl w9.heap.size rfl (w32s L) rfl (by rw [eight_size, w32s_length, HL.out]) (w32s_one _) 131 _ hb10 (by rw [List.size_toArray, w32s_length, w32s_length, HL.out, List.length_replicate]) ?_; intro w11 hb11 hS11 hz; clear hz hb10))
  have hr11 : Blk w11 w2.heap.size 131 (w32s (List.replicate 8 0)).toArray := (((((((hb3.step hS4 id).step hS5 id).step hS6 id).step hS7 id).step hS8 (by omega)).step hS9 (by omega)).step hS10 id).step hS11 (by have := Hz8.out; have := Hz9.out; omega)
  have h511 : Blk w11 w5.heap.size 161 (w32s W).toArray := (hb8.step hS10 id).step hS11 (by have := Hz8.out; have := Hz9.out; omega)
  have h611 : Blk w11 w6.heap.size 161 (w32s K).toArray := (hb9.step hS10 id).step hS11 (by have := Hz8.out; have := Hz9.out; omega)
  have hh11 : Blk w11 w.heap.size 131 (w32s L).toArray := (hb1'.step hS10 id).step hS11 (by have := Hz8.out; have := Hz9.out; omega)
  have hSt : Step (fun _ => False) w w11 := ((((((hS03.tr hS4).tr hS5).tr hS6).tr hS7).trans hS8 (fun i hi e => by omega)).trans hS9 (fun i hi e => by omega)).tr hS10 |>.trans hS11 (fun i hi e => by have := Hz8.out; have := Hz9.out; omega)
  obtain ⟨b5, hb5⟩ : ∃ g, w5.heap.size = g := ⟨_, rfl⟩
  obtain ⟨b6, hb6e⟩ : ∃ g, w6.heap.size = g := ⟨_, rfl⟩
  obtain ⟨b7, hb7e⟩ : ∃ g, w9.heap.size = g := ⟨_, rfl⟩
  have n75 : b7 ≠ b5 := by have := Hz8.out; have := Hz9.out; omega
  have n76 : b7 ≠ b6 := by have := Hz8.out; have := Hz9.out; omega
  have n7h : b7 ≠ w.heap.size := by have := Hz8.out; have := Hz9.out; omega
  have n7r : b7 ≠ w2.heap.size := by have := Hz8.out; have := Hz9.out; omega
  have z7 : w.heap.size ≤ b7 := by have := Hz8.out; have := Hz9.out; omega
  have nhr : w.heap.size ≠ w2.heap.size := by omega
  have zr : w.heap.size ≤ w2.heap.size := by omega
  rw [hb5, hb6e, hb7e]
  rw [hb5] at h511
  rw [hb6e] at h611
  rw [hb7e] at hb11
  clear hb5 hb6e hb7e hS4 hS5 hS6 hS7 hS8 hS9 hS10 hS11 Hz8 Hz9 hb8 hb9 hb1' hb1 hb3 hS03 hz5 hz6 hz7 hz8 hz9 hz10 hz1 hz2 hz3 hz4 hS3 hS2 hS1
  go_loopw [8] (fun i wr => ∃ t : Nat, i = .int .i64 t ∧ t ≤ 64 ∧ Blk wr b7 131 (w32s (compAt (S8.of L) W t).l).toArray ∧ Blk wr b5 161 (w32s W).toArray ∧ Blk wr b6 161 (w32s K).toArray ∧ Blk wr w.heap.size 131 (w32s L).toArray ∧ Blk wr w2.heap.size 131 (w32s (List.replicate 8 0)).toArray ∧ Step (fun _ => False) w wr) (fun i _ => 64 - (intOf i).toNat)
  case atStart =>
    refine ⟨0, rfl, by omega, ?_, h511, h611, hh11, hr11, hSt⟩
    rw [compAt, S8.of_l HL.out]
    exact hb11
  case round =>
    obtain ⟨t, rfl, ht, p7, p5, p6, ph, pr, hSr⟩ := hrel
    by_cases hlt : t < 64
    · have hti : (t : Int) < 64 := by omega
      have hsucc : compAt (S8.of L) W (t + 1) = rndW (compAt (S8.of L) W t) (K.getD t 0) (W.getD t 0) := by rw [← HK.out]; rfl
      have ck := p6.word (i := t) (by rw [HKl.out]; exact hlt)
      have cw := p5.word (i := t) (by rw [HW.out]; exact hlt)
      generalize compAt (S8.of L) W t = s at *
      obtain ⟨a, b', c, d, e, f, g, h⟩ := s
      generalize K.getD t 0 = kt at *
      generalize W.getD t 0 = wt at *
      have Hsucc := Lib.hid hsucc
      clear hsucc
      replace p7 : Blk wr b7 131 (w32s [a, b', c, d, e, f, g, h]).toArray := p7
      have k0 : wr.cell? ⟨b7, 0, none⟩ = some (.int .u32 (a.toNat : Int)) := p7.cell 0
      have k1 : wr.cell? ⟨b7, 1, none⟩ = some (.int .u32 (b'.toNat : Int)) := p7.cell 1
      have k2 : wr.cell? ⟨b7, 2, none⟩ = some (.int .u32 (c.toNat : Int)) := p7.cell 2
      have k4 : wr.cell? ⟨b7, 4, none⟩ = some (.int .u32 (e.toNat : Int)) := p7.cell 4
      have k5 : wr.cell? ⟨b7, 5, none⟩ = some (.int .u32 (f.toNat : Int)) := p7.cell 5
      have k6 : wr.cell? ⟨b7, 6, none⟩ = some (.int .u32 (g.toNat : Int)) := p7.cell 6
      have k7 : wr.cell? ⟨b7, 7, none⟩ = some (.int .u32 (h.toNat : Int)) := p7.cell 7
      have r1 : ∀ W', Calls Try.prog 113 #[.int .u32 e.toNat, .int .i64 (-6)] W' fun r w' => r = .returned (.int .u32 (rotr e 6).toNat) ∧ w' = W' := fun W' => rol_code (a := 6) (by omega) (by omega)
      have r2 : ∀ W', Calls Try.prog 113 #[.int .u32 e.toNat, .int .i64 (-11)] W' fun r w' => r = .returned (.int .u32 (rotr e 11).toNat) ∧ w' = W' := fun W' => rol_code (a := 11) (by omega) (by omega)
      have r3 : ∀ W', Calls Try.prog 113 #[.int .u32 e.toNat, .int .i64 (-25)] W' fun r w' => r = .returned (.int .u32 (rotr e 25).toNat) ∧ w' = W' := fun W' => rol_code (a := 25) (by omega) (by omega)
      have r4 : ∀ W', Calls Try.prog 113 #[.int .u32 a.toNat, .int .i64 (-2)] W' fun r w' => r = .returned (.int .u32 (rotr a 2).toNat) ∧ w' = W' := fun W' => rol_code (a := 2) (by omega) (by omega)
      have r5 : ∀ W', Calls Try.prog 113 #[.int .u32 a.toNat, .int .i64 (-13)] W' fun r w' => r = .returned (.int .u32 (rotr a 13).toNat) ∧ w' = W' := fun W' => rol_code (a := 13) (by omega) (by omega)
      have r6 : ∀ W', Calls Try.prog 113 #[.int .u32 a.toNat, .int .i64 (-22)] W' fun r w' => r = .returned (.int .u32 (rotr a 22).toNat) ∧ w' = W' := fun W' => rol_code (a := 22) (by omega) (by omega)
      have t1 : turnM e 6 11 25 false = xorW (xorW (rotr e 6) (rotr e 11)) (rotr e 25) := rfl
      have t2 : turnM a 2 13 22 false = xorW (xorW (rotr a 2) (rotr a 13)) (rotr a 22) := rfl
      obtain ⟨y1, hy1⟩ : ∃ z, turnM e 6 11 25 false = z := ⟨_, rfl⟩
      obtain ⟨y2, hy2⟩ : ∃ z, turnM a 2 13 22 false = z := ⟨_, rfl⟩
      rw [hy1] at t1
      rw [hy2] at t2
      generalize rotr e 6 = v1 at *
      generalize rotr e 11 = v2 at *
      generalize rotr e 25 = v3 at *
      generalize rotr a 2 = v4 at *
      generalize rotr a 13 = v5 at *
      generalize rotr a 22 = v6 at *
      have x1 := w_xor v1 v2
      have x2 := w_xor (xorW v1 v2) v3
      have x3 := w_xor v4 v5
      have x4 := w_xor (xorW v4 v5) v6
      rw [← t1] at x2
      rw [← t2] at x4
      have e1 := w_and e f
      have e2 := w_not' e
      have e3 := w_and (notW e) g
      have e4 := w_xor (andW e f) (andW (notW e) g)
      rw [chW_eq] at e4
      have m1 := w_and a b'
      have m2 := w_and a c
      have m3 := w_and b' c
      have m4 := w_xor (andW a b') (andW a c)
      have m5 := w_xor (xorW (andW a b') (andW a c)) (andW b' c)
      rw [majW_eq] at m5
      have hone : oneW ⟨a, b', c, d, e, f, g, h⟩ kt wt = addW (addW (addW (addW h y1) (chW e f g)) kt) wt := by rw [← hy1]; rfl
      have htwo : twoW ⟨a, b', c, d, e, f, g, h⟩ = addW y2 (majW a b' c) := by rw [← hy2]; rfl
      have hnew : rndW ⟨a, b', c, d, e, f, g, h⟩ kt wt = ⟨addW (oneW ⟨a, b', c, d, e, f, g, h⟩ kt wt) (twoW ⟨a, b', c, d, e, f, g, h⟩), a, b', c, addW d (oneW ⟨a, b', c, d, e, f, g, h⟩ kt wt), e, f, g⟩ := rfl
      rw [hnew, hone, htwo] at Hsucc
      generalize chW e f g = ch at *
      generalize majW a b' c = mj at *
      have wadd : ∀ x y : UInt32, IntKind.u32.wrap ((x.toNat : Int) + (y.toNat : Int)) = ((addW x y).toNat : Int) := fun x y => by rw [IntKind.wrap_u32']; exact w_add x y
      have a1 := wadd h y1
      have a2 := wadd (addW h y1) ch
      have a3 := wadd (addW (addW h y1) ch) kt
      have a4 := wadd (addW (addW (addW h y1) ch) kt) wt
      have a1' := w_add h y1
      have a2' := w_add (addW h y1) ch
      have a3' := w_add (addW (addW h y1) ch) kt
      have a4' := w_add (addW (addW (addW h y1) ch) kt) wt
      have q1 := wadd y2 mj
      have q1' := w_add y2 mj
      generalize addW (addW (addW (addW h y1) ch) kt) wt = one at *
      generalize addW y2 mj = two at *
      have c1 := wadd d one
      have c2 := wadd one two
      have c1' := w_add d one
      have c2' := w_add one two
      clear hone htwo hnew wadd hy1 hy2 t1 t2
      go_wp2_with fail
      go_quiet (first
        | (go_at_call 113; with_reducible exact Calls.quiet_of_same (r1 _))
        | (go_at_call 113; with_reducible exact Calls.quiet_of_same (r2 _))
        | (go_at_call 113; with_reducible exact Calls.quiet_of_same (r3 _)))
      clear r1 r2 r3 x1 x2 e1 e2 e3 e4 a1 a2 a3 a4 a1' a2' a3' a4'
      go_wp2_with fail
      obtain ⟨wq, hwq⟩ : ∃ wq, wr.drewN nq = wq := ⟨_, rfl⟩
      have s7 : Blk wq b7 131 (w32s [a, b', c, d, e, f, g, h]).toArray := hwq ▸ p7
      have s5 : Blk wq b5 161 (w32s W).toArray := hwq ▸ p5
      have s6 : Blk wq b6 161 (w32s K).toArray := hwq ▸ p6
      have sh : Blk wq w.heap.size 131 (w32s L).toArray := hwq ▸ ph
      have sr : Blk wq w2.heap.size 131 (w32s (List.replicate 8 0)).toArray := hwq ▸ pr
      have sS : Step (fun _ => False) w wq := hwq ▸ hSr.drewN nq
      rw [hwq]
      clear hwq k0 k1 k2 k4 k5 k6 k7 ck cw p7 p5 p6 ph pr hSr
      have k0 : wq.cell? ⟨b7, 0, none⟩ = some (.int .u32 (a.toNat : Int)) := s7.cell 0
      have k1 : wq.cell? ⟨b7, 1, none⟩ = some (.int .u32 (b'.toNat : Int)) := s7.cell 1
      have k2 : wq.cell? ⟨b7, 2, none⟩ = some (.int .u32 (c.toNat : Int)) := s7.cell 2
      go_quiet (first
        | (go_at_call 113; with_reducible exact Calls.quiet_of_same (r4 _))
        | (go_at_call 113; with_reducible exact Calls.quiet_of_same (r5 _))
        | (go_at_call 113; with_reducible exact Calls.quiet_of_same (r6 _)))
      clear r4 r5 r6 x3 x4 m1 m2 m3 m4 m5 q1 q1' k0 k1 k2
      obtain ⟨wp, hwp⟩ : ∃ wp, wq.drewN nq = wp := ⟨_, rfl⟩
      have g0 : Blk wp b7 131 (w32s [a, b', c, d, e, f, g, h]).toArray := hwp ▸ s7
      have u5 : Blk wp b5 161 (w32s W).toArray := hwp ▸ s5
      have u6 : Blk wp b6 161 (w32s K).toArray := hwp ▸ s6
      have uh : Blk wp w.heap.size 131 (w32s L).toArray := hwp ▸ sh
      have ur : Blk wp w2.heap.size 131 (w32s (List.replicate 8 0)).toArray := hwp ▸ sr
      have uS : Step (fun _ => False) w wp := hwp ▸ sS.drewN nq
      rw [hwp]
      clear hwp s7 s5 s6 sh sr sS
      have k3 : wp.cell? ⟨b7, 3, none⟩ = some (.int .u32 (d.toNat : Int)) := g0.cell 3
      have k4 : wp.cell? ⟨b7, 4, none⟩ = some (.int .u32 (e.toNat : Int)) := g0.cell 4
      have k5 : wp.cell? ⟨b7, 5, none⟩ = some (.int .u32 (f.toNat : Int)) := g0.cell 5
      have k6 : wp.cell? ⟨b7, 6, none⟩ = some (.int .u32 (g.toNat : Int)) := g0.cell 6
      go_wp2_with (first
        | (refine wl_put _ rfl 44 _ _ rfl b7 7 rfl (.int .u32 ((g).toNat : Int)) rfl rfl rfl word_size 131 _ g0 (by simp [w32s]) ?_; intro v1 g1 S1; rw [w32s_set] at g1; simp only [List.set_cons_succ, List.set_cons_zero] at g1; clear g0)
        | (refine wl_put _ rfl 44 _ _ rfl b7 6 rfl (.int .u32 ((f).toNat : Int)) rfl rfl rfl word_size 131 _ g1 (by simp [w32s]) ?_; intro v2 g2 S2; rw [w32s_set] at g2; simp only [List.set_cons_succ, List.set_cons_zero] at g2; clear g1)
        | (refine wl_put _ rfl 44 _ _ rfl b7 5 rfl (.int .u32 ((e).toNat : Int)) rfl rfl rfl word_size 131 _ g2 (by simp [w32s]) ?_; intro v3 g3 S3; rw [w32s_set] at g3; simp only [List.set_cons_succ, List.set_cons_zero] at g3; clear g2)
        | (refine wl_put _ rfl 44 _ _ rfl b7 4 rfl (.int .u32 ((addW d one).toNat : Int)) rfl rfl rfl word_size 131 _ g3 (by simp [w32s]) ?_; intro v4 g4 S4; rw [w32s_set] at g4; simp only [List.set_cons_succ, List.set_cons_zero] at g4; clear g3; clear k3 k4 k5 k6; have k0 := g4.cell 0; have k1 := g4.cell 1; have k2 := g4.cell 2; replace k0 : v4.cell? ⟨b7, 0, none⟩ = some (.int .u32 (a.toNat : Int)) := k0; replace k1 : v4.cell? ⟨b7, 1, none⟩ = some (.int .u32 (b'.toNat : Int)) := k1; replace k2 : v4.cell? ⟨b7, 2, none⟩ = some (.int .u32 (c.toNat : Int)) := k2)
        | (refine wl_put _ rfl 44 _ _ rfl b7 3 rfl (.int .u32 ((c).toNat : Int)) rfl rfl rfl word_size 131 _ g4 (by simp [w32s]) ?_; intro v5 g5 S5; rw [w32s_set] at g5; simp only [List.set_cons_succ, List.set_cons_zero] at g5; clear g4)
        | (refine wl_put _ rfl 44 _ _ rfl b7 2 rfl (.int .u32 ((b').toNat : Int)) rfl rfl rfl word_size 131 _ g5 (by simp [w32s]) ?_; intro v6 g6 S6; rw [w32s_set] at g6; simp only [List.set_cons_succ, List.set_cons_zero] at g6; clear g5)
        | (refine wl_put _ rfl 44 _ _ rfl b7 1 rfl (.int .u32 ((a).toNat : Int)) rfl rfl rfl word_size 131 _ g6 (by simp [w32s]) ?_; intro v7 g7 S7; rw [w32s_set] at g7; simp only [List.set_cons_succ, List.set_cons_zero] at g7; clear g6)
        | (refine wl_put _ rfl 44 _ _ rfl b7 0 rfl (.int .u32 ((addW one two).toNat : Int)) rfl rfl rfl word_size 131 _ g7 (by simp [w32s]) ?_; intro v8 g8 S8; rw [w32s_set] at g8; simp only [List.set_cons_succ, List.set_cons_zero] at g8; clear g7))
      have S9 : Step (fun k => k = b7) wp v8 := ((((((S1.tr S2).tr S3).tr S4).tr S5).tr S6).tr S7).tr S8
      refine ⟨⟨t + 1, by go_num, by omega, ?_, u5.step S9 (fun e => n75 e.symm), u6.step S9 (fun e => n76 e.symm), uh.step S9 (fun e => n7h e.symm), ur.step S9 (fun e => n7r e.symm), uS.trans S9 (fun i hi e => by omega)⟩, by simp only [intOf]; omega⟩
      rw [Hsucc.out]
      exact g8
    · have : t = 64 := by omega
      subst this
      obtain ⟨Z, hZ⟩ : ∃ Z, (compAt (S8.of L) W 64).l = Z := ⟨_, rfl⟩
      have hZl : Z.length = 8 := by rw [← hZ]; rfl
      rw [hZ] at p7
      have HZ := Lib.hid hZ
      have HZl := Lib.hid hZl
      clear hZ hZl
      go_wp2
      clear p5 p6
      simp only [show ((64 : Nat) : Int) = 64 from rfl]
      go_loopw [111] (fun i wr' => ∃ j : Nat, i = .int .i64 j ∧ j ≤ 8 ∧ Blk wr' w.heap.size 131 (w32s (addAt L Z j)).toArray ∧ Blk wr' b7 131 (w32s Z).toArray ∧ Blk wr' w2.heap.size 131 (w32s (List.replicate 8 0)).toArray ∧ Step (fun _ => False) w wr') (fun i _ => 8 - (intOf i).toNat)
      case atStart => exact ⟨0, rfl, by omega, ph, p7, pr, hSr⟩
      case round =>
        obtain ⟨j, rfl, hj, vh, v7, vr, vS⟩ := hrel
        by_cases hlj : j < 8
        · have hji : (j : Int) < 8 := by omega
          have hlen : (addAt L Z j).length = 8 := by rw [addAt_length, HL.out]
          have vhd : Blk wr.drew w.heap.size 131 (w32s (addAt L Z j)).toArray := vh
          have v7d : Blk wr.drew b7 131 (w32s Z).toArray := v7
          have cx := vhd.word (i := j) (by rw [hlen]; exact hlj)
          have cz := v7d.word (i := j) (by rw [HZl.out]; exact hlj)
          have hnext : addAt L Z (j + 1) = (addAt L Z j).set j (addW ((addAt L Z j).getD j 0) (Z.getD j 0)) := rfl
          have Hnext := Lib.hid hnext
          have Hlen := Lib.hid hlen
          clear hnext hlen
          generalize (addAt L Z j).getD j 0 = x at *
          generalize Z.getD j 0 = z at *
          have a1 : IntKind.u32.wrap ((x.toNat : Int) + (z.toNat : Int)) = ((addW x z).toNat : Int) := by rw [IntKind.wrap_u32']; exact w_add x z
          have a2 := w_add x z
          go_wp2_with fail
          refine wp_region_still_tail 8 (by kernel_rfl) (by kernel_rfl) ?_
          simp only [List.take_succ_cons, List.take_zero, List.drop_succ_cons, List.drop_zero]
          change wpStill _ _ wr.drew _ _ _
          repeat still_step
          refine wpStill_nil ?_
          go_wp2_with (refine wl_put _ rfl 44 _ _ rfl w.heap.size j rfl (.int .u32 ((addW x z).toNat : Int)) rfl rfl rfl word_size 131 _ vhd (by rw [List.size_toArray, w32s_length, Hlen.out]; exact hlj) ?_; intro w9 hb9 hS9)
          rw [w32s_set] at hb9
          refine ⟨⟨j + 1, by go_num, by omega, by rw [Hnext.out]; exact hb9, v7.drew.step hS9 n7h, vr.drew.step hS9 (fun e => nhr e.symm), vS.drew.trans hS9 (fun i hi e => by omega)⟩, by simp only [intOf]; omega⟩
        · have : j = 8 := by omega
          subst this
          have hM : compM L b = addAt L Z 8 := by rw [compM, HWe.out, HZ.out]
          have hlen : (addAt L Z 8).length = 8 := by rw [addAt_length, HL.out]
          generalize addAt L Z 8 = V at *
          have HM := Lib.hid hM
          have Hlen := Lib.hid hlen
          clear hM hlen
          have hcV : Cells wr w.heap.size 0 (w32s V) := vh.cells
          go_wp2_with (first
            | (refine wl_load rfl 131 _ rfl w.heap.size 0 rfl (w32s V) _ Try.underlying131 rfl (by rw [eight_size, w32s_length, Hlen.out]) hcV ?_)
            | (refine wl_store_all rfl 131 _ _ rfl w2.heap.size rfl (w32s V) rfl (by rw [eight_size, w32s_length, Hlen.out]) (w32s_one _) 131 _ vr (by rw [List.size_toArray, w32s_length, w32s_length, Hlen.out, List.length_replicate]) ?_; intro w9 hb9 hS9 hz; clear hz))
          have hc9 : Cells w9 w2.heap.size 0 (w32s V) := hb9.cells
          refine bodyPost_ret (res_cell1 rfl rfl (run_loadVar_agg Try.underlying131 rfl (by rw [eight_size, w32s_length, Hlen.out]) hc9)) rfl ?_
          exact ⟨by rw [HM.out], vS.trans hS9 (fun i hi e => by omega)⟩
end Go.Proofs.Ytcmgjoamfjijhaa
