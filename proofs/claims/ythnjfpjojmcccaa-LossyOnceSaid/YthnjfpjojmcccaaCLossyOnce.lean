/- The law LossyOnce: what is received was sent; without fates it comes once, in order. -/
import Derived.Test.YthnjfpjojmcccaaCOnceM
import Derived.LoopIn
namespace Go.Proofs.Ythnjfpjojmcccaa
open Go.RowKit Go.Shelf
set_option linter.unusedVariables false
set_option linter.unusedSimpArgs false

theorem wi_at (d : Nat) {F : Fence} {fn : Nat} {P : Program} {ops : Array Oper} {rest : List Oper} {o : Oper} {a : Act} {w : World} {Q : Exit → Act → World → Prop} (hd : o.dst = some d) (h : wpListIn F fn P ops Q (o :: rest) a w) : wpListIn F fn P ops Q (o :: rest) a w := h
def OnceL (g3 g4 gn : Nat) (B : Option Addr) (d : Nat) (ps : List RowAt) (n : Nat) (F : List Ent) : List Ent := eBlk gn 3 [.int .i64 (n : Int)] :: eBlk g3 70 [.slice B ps.length d] :: eBlk g4 4 [.bool false] :: eRows B ps.length d ps :: F
def OnceAx (d1 d2 : Nat) (M : List RowAt → List Ent → Prop) (t : Array Value) (pre : List RowAt) (x : RowAt) (a' : Act) (L : List Ent) : Prop := a' = { tmps := (t.setIfInBounds d1 (.slice x.A x.n x.c)).setIfInBounds d2 (.slice x.A x.n x.c), defers := [] } ∧ M pre L
attribute [local go_sem] Oper.semAt_some
set_option maxRecDepth 100000 in
set_option maxHeartbeats 2000000 in
theorem walk_LossyOnce {w0 : World} {A B : Option Addr} {n c m d : Nat} {fates : List Fa} {ps : List RowAt} (ha : Sl w0 A n c 2 (fates.flatMap fac)) (hb : Sl w0 B m d 1 (ps.flatMap rowc)) (hbr : RowsIs w0 ps) :
    Calls Try.prog 9 #[.slice A n c, .slice B m d] w0 fun e w' => e = .returned (.bool true) ∧ Below w0.heap.size w0 w' := by
  have h := (St.rows0 hb hbr).reading ha (by omega) (fun k hk => ⟨ha.ft_lt (by omega) hk, id⟩)
  have hn := ha.n_flat fac_length (by omega)
  have hm := hb.n_rows
  subst hn hm
  clear ha hb hbr
  by_cases c1 : 30 < fates.length
  · skip
    refine callsIn_wide.1 (callsIn_of_wp_marks (F := Fence.wide) (n := 3) Try.func9 rfl trivial ?_ rfl)
    simp only [Try.ntmps9, List.size_toArray, List.length_cons, List.length_nil, Nat.reduceAdd, Nat.reduceSub, Array.replicate_succ, Array.replicate_zero, List.push_toArray, List.append_toArray, List.nil_append, List.cons_append]
    refine wpIn_wide.2 ?_
    go_wp2_with (first | (refine wl_runs rfl (ex_box1s h 70 _ rfl B ps.length d rfl) ?_; clear h; rintro _ w ⟨g3, rfl, h⟩) | (refine wl_runs rfl (ex_alloc h 4 rfl) ?_; clear h; rintro _ w ⟨g4, rfl, h⟩) | (go_at_call 24; refine (lossy_awake h).mono ?_; clear h; rintro e w ⟨rfl, h⟩) | (refine wl_runs rfl (ex_store1b h _ _ _ rfl _ _ rfl _ rfl) ?_; clear h; rintro _ w ⟨rfl, h⟩; try dsimp only [Act.put]))
    exact ret_plain (res_cell1 rfl rfl (h.loadVar1 4 g4 0)) rfl ⟨rfl, h.step.below⟩
  have d1 : decide ((30 : Int) < (fates.length : Int)) = false := by simp; omega
  by_cases c2 : 30 < ps.length
  · skip
    refine callsIn_wide.1 (callsIn_of_wp_marks (F := Fence.wide) (n := 3) Try.func9 rfl trivial ?_ rfl)
    simp only [Try.ntmps9, List.size_toArray, List.length_cons, List.length_nil, Nat.reduceAdd, Nat.reduceSub, Array.replicate_succ, Array.replicate_zero, List.push_toArray, List.append_toArray, List.nil_append, List.cons_append]
    refine wpIn_wide.2 ?_
    go_wp2_with (first | (refine wl_runs rfl (ex_box1s h 70 _ rfl B ps.length d rfl) ?_; clear h; rintro _ w ⟨g3, rfl, h⟩) | (refine wl_runs rfl (ex_alloc h 4 rfl) ?_; clear h; rintro _ w ⟨g4, rfl, h⟩) | (go_at_call 24; refine (lossy_awake h).mono ?_; clear h; rintro e w ⟨rfl, h⟩) | (refine wl_runs rfl (ex_store1b h _ _ _ rfl _ _ rfl _ rfl) ?_; clear h; rintro _ w ⟨rfl, h⟩; try dsimp only [Act.put]) | (refine wl_reads rfl (ex_loadv h _ _ rfl _ _ rfl) ?_))
    exact ret_plain (res_cell1 rfl rfl (h.loadVar1 4 g4 0)) rfl ⟨rfl, h.step.below⟩
  have d2 : decide ((30 : Int) < (ps.length : Int)) = false := by simp; omega
  have t1 := True.intro
  refine callsIn_wide.1 (callsIn_of_wp_marks (F := Fence.wide) (n := 3) Try.func9 rfl trivial ?_ rfl)
  simp only [Try.ntmps9, List.size_toArray, List.length_cons, List.length_nil, Nat.reduceAdd, Nat.reduceSub, Array.replicate_succ, Array.replicate_zero, List.push_toArray, List.append_toArray, List.nil_append, List.cons_append]
  refine wpIn_wide.2 ?_
  go_wp2_with (first
    | (refine wl_runs rfl (ex_box1s h 70 _ rfl B ps.length d rfl) ?_; clear h; rintro _ w ⟨g3, rfl, h⟩) | (refine wl_runs rfl (ex_alloc h 4 rfl) ?_; clear h; rintro _ w ⟨g4, rfl, h⟩) | (go_at_call 24; refine (lossy_awake h).mono ?_; clear h; rintro e w ⟨rfl, h⟩)
    | (clear t1; go_at_call 25; refine (lk_new (A := A) (n := fates.length) (c := c) (fs := fates) h (by omega)).mono ?_; clear h; rintro e w ⟨gx, kx, rfl, h⟩)
    | (go_at_call 25; refine (lk_new (A := none) (n := 0) (c := 0) (fs := []) h (ka := ⟨fun w _ => Sl.nil w 2⟩) (by omega)).mono ?_; clear h; rintro e w ⟨gy, ky, rfl, h⟩)
    | (refine wl_reads rfl (ex_loadv h _ _ rfl _ _ rfl) ?_))
  have hX0 := OnceX.new fates ps
  have hY0 := OnceY.new ps
  go_loopw [31] (fun iv wr => ∃ (k : Nat) (x y : Lk) (kx ky : LkAt), iv = .int .i64 (k : Int) ∧ k ≤ ps.length ∧ Hid (OnceX fates ps k x) ∧ Hid (OnceY ps k y) ∧ St (fun _ => False) w0 wr [eLk gy ky y, eLk gx kx x, eBlk g4 4 [.bool false], eBlk g3 70 [.slice B ps.length d], eRows B ps.length d ps]) (fun iv _ => ps.length - (intOf iv).toNat)
  case atStart => exact ⟨0, _, _, kx, ky, rfl, Nat.zero_le _, Lib.hid hX0, Lib.hid hY0, h.to⟩
  case round =>
    clear h hX0 hY0
    obtain ⟨k, x, y, kx, ky, rfl, hk, HX, HY, h⟩ := hrel
    by_cases hkp : k < ps.length
    · have f2 : (k : Int) < (ps.length : Int) := by omega
      have t1 : ((k : Int)).toNat = k := by omega
      obtain ⟨p, hp⟩ : ∃ p, ps[k] = p := ⟨_, rfl⟩
      have hpm : p ∈ ps := by rw [← hp]; exact List.getElem_mem _
      have hrw := h.rowsAt B ps.length d
      obtain ⟨bB, oB, rfl, _⟩ := hrw.1.pos (by omega)
      have hcB : ∀ {w}, Sl w (some ⟨bB, oB, none⟩) ps.length d 1 (ps.flatMap rowc) → w.cell? ⟨bB, oB + k, none⟩ = some (.slice p.A p.n p.c) := fun hs => by
        have := hs.elemAt rowc_length hkp (by omega) 0 _ rfl
        rw [hp] at this
        simpa using this
      have hpn := (hrw.2 p hpm).n_eq
      have Hp := Lib.hid hp
      clear hrw hp
      by_cases hlong : 100 < p.n
      · have f3 : (100 : Int) < (p.n : Int) := by omega
        go_wp2_with (first
          | (refine wl_at 34 rfl ?_; refine wl_reads rfl (ex_load1_at _ _ rfl bB (oB + k) rfl (.slice p.A p.n p.c) (hcB (h.rowsAt (some ⟨bB, oB, none⟩) ps.length d).1)) ?_)
          | (refine wl_runs rfl (ex_store1b h _ _ _ rfl _ _ rfl _ rfl) ?_; clear h; rintro _ w ⟨rfl, h⟩; try dsimp only [Act.put]))
        exact ret_plain (res_cell1 rfl rfl (h.loadVar1 4 g4 0)) rfl ⟨rfl, h.step.below⟩
      · have f3 : ¬ (100 : Int) < (p.n : Int) := by omega
        have hpl : p.l.length ≤ 100 := by omega
        have Hpl := Lib.hid hpl
        have hxf : x.fates.length ≤ 30 := by rw [HX.out.fx]; omega
        have hyf : y.fates.length ≤ 30 := by rw [HY.out.fy]; simp
        have hxs : x.sent ≤ 30 := by rw [HX.out.sx]; omega
        have hys : y.sent ≤ 30 := by rw [HY.out.sy]; omega
        have hxl : x.wait.length ≤ 90 := by have := HX.out.len; omega
        have hyl : y.wait.length ≤ 90 := by have := congrArg List.length HY.out.bodies; simp at this; omega
        have s1 := True.intro
        clear hpn hpl
        replace h := h.oneRow (some ⟨bB, oB, none⟩) ps.length d hpm
        go_wp2_with (first
          | (refine wl_at 34 rfl ?_; refine wl_reads rfl (ex_load1_at _ _ rfl bB (oB + k) rfl (.slice p.A p.n p.c) (hcB (h.rowsAt (some ⟨bB, oB, none⟩) ps.length d).1)) ?_)
          | (clear s1; go_at_call 26; refine (lk_send (g := gx) (B := p.A) (m := p.n) (d := p.c) (b := p.l) h (by omega) (by omega) (by omega) (by omega)).mono ?_; clear h; rintro r w ⟨rfl, kx2, i, z, hz0, hz1, hz2, h⟩; have HX2 := Lib.hid (HX.out.send hpm Hpl.out hz0 hz1); clear hz0 hz1 hz2)
          | (go_at_call 26; refine (lk_send (g := gy) (B := p.A) (m := p.n) (d := p.c) (b := p.l) h (by omega) (by omega) (by omega) (by omega)).mono ?_; clear h; rintro r w ⟨rfl, ky2, i2, z2, hz0, hz1, hz2, h⟩; have HY2 := Lib.hid (HY.out.send hkp (by rw [Hp.out]; exact Hpl.out) hz0 (by rw [Hp.out]; exact hz1) hz2); clear hz0 hz1 hz2))
        refine ⟨⟨k + 1, _, _, kx2, ky2, by push_cast; rfl, by omega, HX2, HY2, h.to⟩, ?_⟩
        simp only [intOf]
        omega
    · obtain rfl : k = ps.length := by omega
      have hkk : ¬ ((ps.length : Int) < (ps.length : Int)) := by omega
      clear hkp hk
      have s1 := True.intro
      go_wp2_with (first
        | (refine wl_runs rfl (ex_alloc h 3 rfl) ?_; clear h; rintro _ w ⟨gn, rfl, h⟩)
        | (refine wl_runs rfl (ex_store1i h _ _ _ rfl _ _ rfl _ _ rfl) ?_; clear h; rintro _ w ⟨rfl, h⟩; try dsimp only [Act.put])
        | (go_at_call 32; refine (drain_make (g := gx) h).mono ?_; clear h; rintro e w ⟨gl, rfl, h⟩))
      replace h : St (fun _ => False) w0 w (DL gl gx kx x ++ OnceL g3 g4 gn B d ps 0 [eLk gy ky y]) := St.to (L' := eLk gx kx x :: eBlk gl 72 [.pointer (some ⟨gx, 0, none⟩)] :: eBlk gn 3 [.int .i64 0] :: eBlk g3 70 [.slice B ps.length d] :: eBlk g4 4 [.bool false] :: eRows B ps.length d ps :: [eLk gy ky y]) h
      have hxs : ∀ m ∈ x.wait, m.body.length ≤ 1000 := fun m hm => by have := HX.out.short m hm; omega
      have hys : ∀ m ∈ y.wait, m.body.length ≤ 1000 := fun m hm => by have := HY.out.short m hm; omega
      have hxl : x.wait.length ≤ 90 := by have := HX.out.len; omega
      have hyl : y.wait.length ≤ 90 := by have := congrArg List.length HY.out.bodies; simp at this; omega
      refine wp_iter rfl (enters_of Try.func48 (by kernel_rfl) rfl) (drain_iters hxs (by omega)) (fun _ => rfl) h (fun pre L => L = OnceL g3 g4 gn B d ps pre.length [eLk gy ky y]) (fun _ _ _ => False) (OnceAx 47 10 (fun pre L => L = OnceL g3 g4 gn B d ps pre.length [eLk gy ky y])) rfl ?assign ?body ?done ?stop
      case assign =>
        rintro l' T X O R' pre p L W rfl _ h
        rw [zip1]
        simp only [List.setIfInBounds_toArray, List.set_cons_succ, List.set_cons_zero]
        gi_wp2
        exact ⟨_, ⟨rfl, rfl⟩, h⟩
      case body =>
        rintro l' T X O R' pre p a' L W W2 ⟨rfl, rfl⟩ ⟨hpre, hrow⟩ h
        simp only [List.setIfInBounds_toArray, List.set_cons_succ, List.set_cons_zero]
        obtain ⟨hin, hlen⟩ := HX.out.told hpre
        have Hin := Lib.hid (any_all hin)
        clear hpre hin
        have hlen2 : pre.length ≤ 90 := by omega
        unfold OnceL at h
        have hh := h
        have tr := True.intro
        gi_wp2_with (first | (refine wi_reads rfl (ex_loadv h _ _ rfl _ _ rfl) ?_))
        gi_loopw [11, 50] (fun tv iv wr => ∃ (j : Nat) (t : Bool), tv = .bool t ∧ iv = .int .i64 (j : Int) ∧ j ≤ ps.length ∧ Hid (t = (ps.take j).any (fun q => q.l == p.l)) ∧ St T W wr (X :: eOp O R' W :: OnceL g3 g4 gn B d ps pre.length [eLk gy ky y])) (fun _ iv _ => ps.length - (intOf iv).toNat)
        case atStart => exact ⟨0, false, rfl, rfl, Nat.zero_le _, Lib.hid (by simp), h⟩
        case round =>
          clear h hh
          obtain ⟨j, t, rfl, rfl, hj, Ht, h⟩ := hrel
          unfold OnceL at h
          by_cases hjp : j < ps.length
          · have f2 : (j : Int) < (ps.length : Int) := by omega
            have t1 : ((j : Int)).toNat = j := by omega
            obtain ⟨q, hq⟩ : ∃ q, ps[j] = q := ⟨_, rfl⟩
            have hqm : q ∈ ps := by rw [← hq]; exact List.getElem_mem _
            have hrw := h.rowsAt B ps.length d
            obtain ⟨bB, oB, rfl, _⟩ := hrw.1.pos (by omega)
            have hcB : wr.cell? ⟨bB, oB + j, none⟩ = some (.slice q.A q.n q.c) := by
              have := hrw.1.elemAt rowc_length hjp (by omega) 0 _ rfl
              rw [hq] at this
              simpa using this
            have hsq := hrw.2 q hqm
            have hsp := hrow.still h
            have Hn := Lib.hid (any_next (l := p.l) hjp)
            rw [hq] at Hn
            clear hrw hq
            cases t with
            | true =>
              gi_wp2_with (first
                | (refine wi_at 53 rfl ?_; refine wi_reads rfl (ex_load1_at _ _ rfl bB (oB + j) rfl (.slice q.A q.n q.c) hcB) ?_))
              refine ⟨⟨j + 1, true, rfl, by push_cast; rfl, by omega, Lib.hid (by rw [Hn.out, ← Ht.out]; rfl), h⟩, ?_⟩
              simp only [intOf]
              omega
            | false =>
              gi_wp2_with (first
                | (refine wi_at 53 rfl ?_; refine wi_reads rfl (ex_load1_at _ _ rfl bB (oB + j) rfl (.slice q.A q.n q.c) hcB) ?_)
                | (refine wi_at 57 rfl ?_; refine wi_reads rfl (ex_string _ _ _ rfl Try.underlying5 Try.underlying9 q.A q.n q.c rfl hsq) ?_)
                | (refine wi_at 59 rfl ?_; refine wi_reads rfl (ex_string _ _ _ rfl Try.underlying5 Try.underlying9 p.A p.n p.c rfl hsp) ?_))
              refine ⟨⟨j + 1, _, rfl, by push_cast; rfl, by omega, Lib.hid (by rw [Hn.out, ← Ht.out, str_toList, str_toList]; rfl), h⟩, ?_⟩
              simp only [intOf]
              omega
          · obtain rfl : j = ps.length := by omega
            have hkk : ¬ ((ps.length : Int) < (ps.length : Int)) := by omega
            obtain rfl : t = true := by rw [Ht.out, Hin.out]
            clear hjp hj
            gi_wp2_with (first | (refine wi_runs rfl (ex_store1i h _ _ _ rfl _ _ rfl _ _ rfl) ?_; clear h; rintro _ w ⟨rfl, h⟩; try dsimp only [Act.put]) | (refine wi_reads rfl (ex_loadv h _ _ rfl _ _ rfl) ?_))
            have h2 : St T W w (X :: eOp O R' W :: OnceL g3 g4 gn B d ps (pre.length + 1) [eLk gy ky y]) := by
              unfold OnceL
              rw [show ((pre.length + 1 : Nat) : Int) = (pre.length : Int) + 1 by omega]
              exact h.to
            exact h2
      case done =>
        rintro D1 pre L Lf W rfl hfin h
        obtain ⟨hpre, k2, rfl⟩ := hfin rfl
        have hpn : pre.length ≤ 3 * ps.length := by
          have h1 := congrArg List.length hpre
          have h2 := HX.out.len
          simp at h1
          omega
        clear hpre hfin
        unfold OnceL at h
        replace h : St (fun _ => False) w0 W (eDfr D1 :: eLk gx k2 ⟨x.fates, x.sent, []⟩ :: eBlk gn 3 [.int .i64 (pre.length : Int)] :: eBlk g3 70 [.slice B ps.length d] :: eBlk g4 4 [.bool false] :: eRows B ps.length d ps :: [eLk gy ky y]) := St.to (L := eDfr D1 :: eLk gx k2 ⟨x.fates, x.sent, []⟩ :: eBlk gl 72 [.pointer (some ⟨gx, 0, none⟩)] :: eBlk gn 3 [.int .i64 (pre.length : Int)] :: eBlk g3 70 [.slice B ps.length d] :: eBlk g4 4 [.bool false] :: eRows B ps.length d ps :: [eLk gy ky y]) h
        go_wp2_with (first
          | (refine wl_runs rfl (ex_alloc h 3 rfl) ?_; clear h; rintro _ w ⟨gi, rfl, h⟩)
          | (refine wl_runs rfl (ex_store1i h _ _ _ rfl _ _ rfl _ _ rfl) ?_; clear h; rintro _ w ⟨rfl, h⟩; try dsimp only [Act.put])
          | (go_at_call 32; refine (drain_make (g := gy) h).mono ?_; clear h; rintro e w ⟨gm, rfl, h⟩))
        replace h : St (fun _ => False) w0 w (DL gm gy ky y ++ OnceL g3 g4 gi B d ps 0 [eDfr D1, eLk gx k2 ⟨x.fates, x.sent, []⟩, eBlk gn 3 [.int .i64 (pre.length : Int)]]) := St.to (L' := eLk gy ky y :: eBlk gm 72 [.pointer (some ⟨gy, 0, none⟩)] :: eBlk gi 3 [.int .i64 0] :: eBlk g3 70 [.slice B ps.length d] :: eBlk g4 4 [.bool false] :: eRows B ps.length d ps :: [eDfr D1, eLk gx k2 ⟨x.fates, x.sent, []⟩, eBlk gn 3 [.int .i64 (pre.length : Int)]]) h
        refine wp_iter rfl (enters_of Try.func48 (by kernel_rfl) rfl) (drain_iters hys (by omega)) (fun _ => rfl) h (fun pre2 L => L = OnceL g3 g4 gi B d ps pre2.length [eDfr D1, eLk gx k2 ⟨x.fates, x.sent, []⟩, eBlk gn 3 [.int .i64 (pre.length : Int)]]) (fun _ _ _ => False) (OnceAx 69 15 (fun pre2 L => L = OnceL g3 g4 gi B d ps pre2.length [eDfr D1, eLk gx k2 ⟨x.fates, x.sent, []⟩, eBlk gn 3 [.int .i64 (pre.length : Int)]])) rfl ?assign2 ?body2 ?done2 ?stop2
        case assign2 =>
          rintro l' T X O R' pre2 p L W rfl _ h
          rw [zip1]
          simp only [List.setIfInBounds_toArray, List.set_cons_succ, List.set_cons_zero]
          gi_wp2
          exact ⟨_, ⟨rfl, rfl⟩, h⟩
        case body2 =>
          rintro l' T X O R' pre2 p a' L W W2 ⟨rfl, rfl⟩ ⟨hpre, hrow⟩ h
          simp only [List.setIfInBounds_toArray, List.set_cons_succ, List.set_cons_zero]
          obtain ⟨j, hjp, hqp, hj, hl1⟩ : ∃ j, ∃ hjp : j < ps.length, (ps[j]).l = p.l ∧ pre2.length = j ∧ (pre2 ++ [p]).length = j + 1 := ⟨pre2.length, (HY.out.told hpre).1, (HY.out.told hpre).2, rfl, by simp⟩
          rw [hj] at h
          rw [hl1]
          clear hpre hl1 hj
          have f1 : ¬ ((ps.length : Int) ≤ (j : Int)) := by omega
          have f2 : (j : Int) < (ps.length : Int) := by omega
          have f3 : decide ((ps.length : Int) ≤ (j : Int)) = false := by simp; omega
          have f4 : decide (ps.length ≤ j) = false := by simp; omega
          have f5 : (0 : Int) ≤ (j : Int) := by omega
          have t1 : ((j : Int)).toNat = j := by omega
          obtain ⟨q, hq⟩ : ∃ q, ps[j] = q := ⟨_, rfl⟩
          have hqm : q ∈ ps := by rw [← hq]; exact List.getElem_mem _
          unfold OnceL at h
          have hrw := h.rowsAt B ps.length d
          obtain ⟨bB, oB, rfl, _⟩ := hrw.1.pos (by omega)
          have hcB : ∀ {w}, Sl w (some ⟨bB, oB, none⟩) ps.length d 1 (ps.flatMap rowc) → w.cell? ⟨bB, oB + j, none⟩ = some (.slice q.A q.n q.c) := fun hs => by
            have := hs.elemAt rowc_length hjp (by omega) 0 _ rfl
            rw [hq] at this
            simpa using this
          rw [hq] at hqp
          have Hqp := Lib.hid hqp
          have hne : (!((str p.l).toList == (str q.l).toList)) = false := by rw [hqp]; simp
          clear hrw hq hqp
          gi_wp2
          refine wi_region_K 14 (fun w' => St _ _ w' _) (by kernel_rfl) (by kernel_rfl) h.drew ?_; replace h := h.drew
          refine wpAnyK_load 70 (i := 0) (fuel := 13) rfl rfl (by kernel_rfl) (by kernel_rfl) (by kernel_rfl) (.inr (by decide)) (by decide) (fun _ _ _ h => h) rfl (fun w h => ex_loadv h _ _ rfl _ _ rfl) ?_; simp only [Act.put, List.setIfInBounds_toArray, List.set_cons_zero, List.set_cons_succ]
          refine wpAnyK_load 71 (i := 1) (fuel := 12) rfl rfl (by kernel_rfl) (by kernel_rfl) (by kernel_rfl) (.inr (by decide)) (by decide) (fun _ _ _ h => h) rfl (fun w h => ex_loadv h _ _ rfl _ _ rfl) ?_; simp only [Act.put, List.setIfInBounds_toArray, List.set_cons_zero, List.set_cons_succ]
          refine wpAnyK_pure 72 (v := ?_) (i := 2) (fuel := 11) rfl rfl (by kernel_rfl) (by kernel_rfl) (by kernel_rfl) (by decide) (fun _ _ _ h => h) (Or.inl ⟨by rfl, fun w _ => ?_⟩) ?_; rotate_left; (go_simp; with_reducible rfl); simp only [Act.put, List.setIfInBounds_toArray, List.set_cons_zero, List.set_cons_succ]
          refine wpAnyK_pure 73 (v := ?_) (i := 3) (fuel := 10) rfl rfl (by kernel_rfl) (by kernel_rfl) (by kernel_rfl) (by decide) (fun _ _ _ h => h) (Or.inl ⟨by rfl, fun w _ => ?_⟩) ?_; rotate_left; (go_simp; with_reducible rfl); simp only [Act.put, List.setIfInBounds_toArray, List.set_cons_zero, List.set_cons_succ]
          refine wpAnyK_pure 74 (v := ?_) (i := 4) (fuel := 9) rfl rfl (by kernel_rfl) (by kernel_rfl) (by kernel_rfl) (by decide) (fun _ _ _ h => h) (Or.inl ⟨by rfl, fun w _ => ?_⟩) ?_; rotate_left; (go_simp; with_reducible rfl); simp only [Act.put, List.setIfInBounds_toArray, List.set_cons_zero, List.set_cons_succ]
          refine wpAnyK_pure 75 (v := ?_) (i := 5) (fuel := 8) rfl rfl (by kernel_rfl) (by kernel_rfl) (by kernel_rfl) (by decide) (fun _ _ _ h => h) (Or.inl ⟨by rfl, fun w _ => ?_⟩) ?_; rotate_left; (go_simp; with_reducible rfl); simp only [Act.put, List.setIfInBounds_toArray, List.set_cons_zero, List.set_cons_succ]
          refine wpAnyK_load 76 (i := 6) (fuel := 7) rfl rfl (by kernel_rfl) (by kernel_rfl) (by kernel_rfl) (.inr (by decide)) (by decide) (fun _ _ _ h => h) rfl (fun w h => ex_string _ _ _ rfl Try.underlying5 Try.underlying9 p.A p.n p.c rfl (hrow.still h)) ?_; simp only [Act.put, List.setIfInBounds_toArray, List.set_cons_zero, List.set_cons_succ]
          refine wpAnyK_load 77 (i := 7) (fuel := 6) rfl rfl (by kernel_rfl) (by kernel_rfl) (by kernel_rfl) (.inr (by decide)) (by decide) (fun _ _ _ h => h) rfl (fun w h => ex_loadv h _ _ rfl _ _ rfl) ?_; simp only [Act.put, List.setIfInBounds_toArray, List.set_cons_zero, List.set_cons_succ]
          refine wpAnyK_load 78 (i := 8) (fuel := 5) rfl rfl (by kernel_rfl) (by kernel_rfl) (by kernel_rfl) (.inr (by decide)) (by decide) (fun _ _ _ h => h) rfl (fun w h => ex_loadv h _ _ rfl _ _ rfl) ?_; simp only [Act.put, List.setIfInBounds_toArray, List.set_cons_zero, List.set_cons_succ]
          refine wpAnyK_pure 79 (v := ?_) (i := 9) (fuel := 4) rfl rfl (by kernel_rfl) (by kernel_rfl) (by kernel_rfl) (by decide) (fun _ _ _ h => h) (Or.inl ⟨by rfl, fun w _ => ?_⟩) ?_; rotate_left; (go_simp; with_reducible rfl); simp only [Act.put, List.setIfInBounds_toArray, List.set_cons_zero, List.set_cons_succ]
          refine wpAnyK_load 80 (i := 10) (fuel := 3) rfl rfl (by kernel_rfl) (by kernel_rfl) (by kernel_rfl) (.inr (by decide)) (by decide) (fun _ _ _ h => h) rfl (fun w h => ex_load1_at _ _ rfl bB (oB + j) rfl (.slice q.A q.n q.c) (hcB (h.rowsAt (some ⟨bB, oB, none⟩) ps.length d).1)) ?_; simp only [Act.put, List.setIfInBounds_toArray, List.set_cons_zero, List.set_cons_succ]
          refine wpAnyK_load 81 (i := 11) (fuel := 2) rfl rfl (by kernel_rfl) (by kernel_rfl) (by kernel_rfl) (.inr (by decide)) (by decide) (fun _ _ _ h => h) rfl (fun w h => ex_string _ _ _ rfl Try.underlying5 Try.underlying9 q.A q.n q.c rfl ((h.rowsAt (some ⟨bB, oB, none⟩) ps.length d).2 q hqm)) ?_; simp only [Act.put, List.setIfInBounds_toArray, List.set_cons_zero, List.set_cons_succ]
          refine wpAnyK_pure 82 (v := ?_) (i := 12) (fuel := 1) rfl rfl (by kernel_rfl) (by kernel_rfl) (by kernel_rfl) (by decide) (fun _ _ _ h => h) (Or.inl ⟨by rfl, fun w _ => ?_⟩) ?_; rotate_left; (go_simp; with_reducible rfl); simp only [Act.put, List.setIfInBounds_toArray, List.set_cons_zero, List.set_cons_succ]
          refine wpAnyK_pure 83 (v := ?_) (i := 13) (fuel := 0) rfl rfl (by kernel_rfl) (by kernel_rfl) (by kernel_rfl) (by decide) (fun _ _ _ h => h) (Or.inl ⟨by rfl, fun w _ => ?_⟩) ?_; rotate_left; (go_simp; with_reducible rfl); simp only [Act.put, List.setIfInBounds_toArray, List.set_cons_zero, List.set_cons_succ]
          refine wpAnyK_done (by kernel_rfl) ?_
          gi_wp2_with (first | (refine wi_runs rfl (ex_store1i h _ _ _ rfl _ _ rfl _ _ rfl) ?_; clear h; rintro _ w ⟨rfl, h⟩; try dsimp only [Act.put]) | (refine wi_reads rfl (ex_loadv h _ _ rfl _ _ rfl) ?_))
          have h2 : St T W w (X :: eOp O R' W :: OnceL g3 g4 gi (some ⟨bB, oB, none⟩) d ps (j + 1) [eDfr D1, eLk gx k2 ⟨x.fates, x.sent, []⟩, eBlk gn 3 [.int .i64 (pre.length : Int)]]) := by
            unfold OnceL
            rw [show ((j + 1 : Nat) : Int) = (j : Int) + 1 by omega]
            exact h.to
          exact ⟨_, rfl, h2⟩
        case done2 =>
          rintro D2 pre2 L Lf W rfl hfin h
          obtain ⟨hpre2, k3, rfl⟩ := hfin rfl
          have hn2 : pre2.length = ps.length := by
            have h1 := congrArg List.length hpre2
            have h2 := congrArg List.length HY.out.bodies
            simp at h1 h2
            omega
          clear hpre2 hfin
          rw [hn2] at h
          unfold OnceL at h
          replace h : St (fun _ => False) w0 W (eDfr D2 :: eDfr D1 :: eLk gx k2 ⟨x.fates, x.sent, []⟩ :: eBlk gi 3 [.int .i64 (ps.length : Int)] :: eBlk g3 70 [.slice B ps.length d] :: eBlk g4 4 [.bool false] :: [eBlk gn 3 [.int .i64 (pre.length : Int)]]) := St.to (L := eDfr D2 :: eLk gy k3 ⟨y.fates, y.sent, []⟩ :: eBlk gm 72 [.pointer (some ⟨gy, 0, none⟩)] :: eBlk gi 3 [.int .i64 (ps.length : Int)] :: eBlk g3 70 [.slice B ps.length d] :: eBlk g4 4 [.bool false] :: eRows B ps.length d ps :: [eDfr D1, eLk gx k2 ⟨x.fates, x.sent, []⟩, eBlk gn 3 [.int .i64 (pre.length : Int)]]) h
          have f1 : (pre.length : Int) ≤ 3 * (ps.length : Int) := by omega
          have f2 : decide ((pre.length : Int) ≤ 3 * (ps.length : Int)) = true := by simp; omega
          have f3 : ((ps.length : Int) == (ps.length : Int)) = true := by simp
          go_wp2_with (first
            | (go_at_call 30; refine (lk_waiting (g := gx) h).mono ?_; rintro r w ⟨rfl, rfl⟩)
            | (refine wl_runs rfl (ex_store1b h _ _ _ rfl _ _ rfl _ rfl) ?_; clear h; rintro _ w ⟨rfl, h⟩; try dsimp only [Act.put])
            | (refine wl_reads rfl (ex_loadv h _ _ rfl _ _ rfl) ?_))
          have h5 := h.putDfr (D := D2)
          have h6 := h5.putDfr (D := D1)
          exact ret_mark2 h.dfr h5.dfr rfl (res_cell1 rfl rfl (h6.loadVar1 4 g4 0)) ⟨rfl, h6.step.below⟩
        case stop2 => exact fun _ _ _ _ _ _ h => h.elim
      case stop => exact fun _ _ _ _ _ _ h => h.elim
end Go.Proofs.Ythnjfpjojmcccaa
