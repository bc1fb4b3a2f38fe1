/- The law LossyDoes: whatever is sent and received, with any fates, it comes as the document says. -/
import Derived.Test.YthnjfpjojmcccaaCLossyAwake
import Derived.Test.YthnjfpjojmcccaaCLinkRcv
namespace Go.Proofs.Ythnjfpjojmcccaa
open Go.RowKit Go.Shelf
set_option linter.unusedVariables false
set_option linter.unusedSimpArgs false

/-- Both lines behind so many messages sent. -/
structure Both (fates : List Fa) (k : Nat) (x y : Lk) : Prop where
  fx : x.fates = fates
  fy : y.fates = fates
  sx : x.sent = k
  sy : y.sent = k
  same : SameLine (x.wait.map mgb) (y.wait.map mgb)
  len : x.wait.length ≤ 3 * k
  short : ∀ m ∈ x.wait, m.body.length ≤ 100
theorem Both.new (fates : List Fa) : Both fates 0 ⟨fates, 0, []⟩ ⟨fates, 0, []⟩ := ⟨rfl, rfl, rfl, rfl, SameLine.nil, by simp, by simp⟩
theorem Both.length {fates : List Fa} {k : Nat} {x y : Lk} (h : Both fates k x y) : y.wait.length = x.wait.length := by
  have := h.same.length
  simpa using this.symm
theorem clampT_le (t : Int) : clampT t ≤ 3 := by unfold clampT; omega
theorem Both.send {fates : List Fa} {k i : Nat} {x y : Lk} {z : Mg} {ys : List Mg} {b : List UInt8} (h : Both fates k x y) (hb : b.length ≤ 100) (hp : PlaceFor x.wait i z.due) (hzb : z.body = b) (hzd : z.due = x.sent + clampD (fateM x).2) (hys : ys.map mgb = List.replicate (clampT (fateM y).1) (b, y.sent + clampD (fateM y).2)) :
    Both fates (k + 1) ⟨x.fates, x.sent + 1, x.wait.take i ++ List.replicate (clampT (fateM x).1) z ++ x.wait.drop i⟩ ⟨y.fates, y.sent + 1, y.wait ++ ys⟩ := by
  have hf : fateM y = fateM x := by unfold fateM; rw [h.fx, h.fy, h.sx, h.sy]
  have hle := hp.le
  have hc := clampT_le (fateM x).1
  refine ⟨h.fx, h.fy, by show x.sent + 1 = _; rw [h.sx], by show y.sent + 1 = _; rw [h.sy], ?_, ?_, ?_⟩
  · show SameLine ((x.wait.take i ++ List.replicate (clampT (fateM x).1) z ++ x.wait.drop i).map mgb) ((y.wait ++ ys).map mgb)
    have e1 : mgb z = (b, y.sent + clampD (fateM y).2) := by rw [mgb, hzb, hzd, hf, h.sx, h.sy]
    rw [List.map_append, List.map_append, List.map_append, hys, hf, List.map_replicate, List.map_take, List.map_drop, ← hf, ← e1]
    refine h.same.send (m := mgb z) (by simpa using hle) (fun j hj hij => ?_) (fun h0 => ?_)
    · have hj2 : j < x.wait.length := by simpa using hj
      rw [List.getElem_map]
      exact hp.gt j hj2 hij
    · rw [List.getElem_map]
      exact hp.ge h0
  · show (x.wait.take i ++ List.replicate (clampT (fateM x).1) z ++ x.wait.drop i).length ≤ _
    have := h.len
    rw [ins_len hle]
    omega
  · intro m hm
    rcases List.mem_append.1 hm with hm | hm
    · rcases List.mem_append.1 hm with hm | hm
      · exact h.short m (List.mem_of_mem_take hm)
      · rw [List.eq_of_mem_replicate hm, hzb]; exact hb
    · exact h.short m (List.mem_of_mem_drop hm)
theorem Both.recv {fates : List Fa} {k i sent : Nat} {fs : List Fa} {m : Mg} {p : List Mg} {y : Lk} (h : Both fates k ⟨fs, sent, m :: p⟩ y) (hf : First y.wait y.wait.length i) : (y.wait[i]'hf.lt).body = m.body ∧ Both fates k ⟨fs, sent, p⟩ ⟨y.fates, y.sent, y.wait.take i ++ y.wait.drop (i + 1)⟩ := by
  have hs := h.same
  simp only [List.map_cons] at hs
  have hil : i < (y.wait.map mgb).length := by simpa using hf.lt
  obtain ⟨e, h2⟩ := hs.recv (k := i) hil (fun j hj h1 => by
    rw [List.getElem_map, List.getElem_map]
    exact hf.bef j (by simpa using hj) h1) (fun j hj h1 => by
    rw [List.getElem_map, List.getElem_map]
    exact hf.aft j (by simpa using hj) h1 (by simpa using hj))
  rw [List.getElem_map] at e
  refine ⟨congrArg Prod.fst e, h.fx, h.fy, h.sx, h.sy, ?_, ?_, fun m' hm => h.short m' (List.mem_cons_of_mem _ hm)⟩
  · simpa [List.map_take, List.map_drop] using h2
  · have := h.len
    simp at this
    show p.length ≤ _
    omega
set_option maxRecDepth 100000 in
set_option maxHeartbeats 2000000 in
theorem walk_LossyDoes {w0 : World} {A B T : Option Addr} {n c m d q e : Nat} {fates : List Fa} {ps : List RowAt} {takes : List Bool} (ha : Sl w0 A n c 2 (fates.flatMap fac)) (hb : Sl w0 B m d 1 (ps.flatMap rowc)) (hbr : RowsIs w0 ps) (ht : Sl w0 T q e 1 (takes.map Value.bool)) :
    Calls Try.prog 7 #[.slice A n c, .slice B m d, .slice T q e] w0 fun e w' => e = .returned (.bool true) ∧ Below w0.heap.size w0 w' := by
  have h := ((St.rows0 hb hbr).reading ha (by omega) (fun k hk => ⟨ha.ft_lt (by omega) hk, id⟩)).reading ht (by omega) (fun k hk => ⟨ht.ft_lt (by omega) hk, id⟩)
  have hn := ha.n_flat fac_length (by omega)
  have hm := hb.n_rows
  have hq : q = takes.length := by have := ht.len; simpa using this.symm
  subst hn hm hq
  clear ha hb hbr ht
  by_cases c1 : 30 < fates.length
  · go_enter Try.func7, Try.ntmps7
    go_wp2_with (first | (go_at_call 24; refine (lossy_awake h).mono ?_; clear h; rintro e w ⟨rfl, h⟩))
    go_ret
    exact ⟨rfl, h.step.below⟩
  by_cases c2 : 30 < ps.length
  · go_enter Try.func7, Try.ntmps7
    go_wp2_with (first | (go_at_call 24; refine (lossy_awake h).mono ?_; clear h; rintro e w ⟨rfl, h⟩))
    go_ret
    exact ⟨rfl, h.step.below⟩
  by_cases c3 : 60 < takes.length
  · go_enter Try.func7, Try.ntmps7
    go_wp2_with (first | (go_at_call 24; refine (lossy_awake h).mono ?_; clear h; rintro e w ⟨rfl, h⟩))
    go_ret
    exact ⟨rfl, h.step.below⟩
  go_enter Try.func7, Try.ntmps7
  go_wp2_with (first
    | (go_at_call 24; refine (lossy_awake h).mono ?_; clear h; rintro e w ⟨rfl, h⟩)
    | (go_at_call 25; refine (lk_new (A := A) (n := fates.length) (c := c) (fs := fates) h (by omega)).mono ?_; clear h; rintro e w ⟨gx, kx, rfl, h⟩)
    | (refine wl_at 34 rfl ?_; refine wl_reads rfl (ex_lit _ _ rfl [(0, .slice A fates.length c)] rfl) ?_)
    | (refine wl_at 35 rfl ?_; refine wl_runs rfl (ex_box h 77 _ rfl (c_tabulariumref18_Link (.slice A fates.length c) (.int .i64 0) (.slice none 0 0)) rfl) ?_; clear h; rintro _ w ⟨gy, rfl, h⟩))
  replace h : St (fun _ => False) w0 w (RKP gy ⟨A, c, none, 0⟩ ⟨fates, 0, []⟩ [eLk gx kx ⟨fates, 0, []⟩, eSl T takes.length e 1 (takes.map Value.bool), eRows B ps.length d ps]) := St.to (L' := eBlk gy 77 (c_tabulariumref18_Link (.slice A fates.length c) (.int .i64 0) (.slice none 0 0)) :: eSl A fates.length c 2 (fates.flatMap fac) :: eOwn 113 2 none 0 0 [] :: eSls [] :: [eLk gx kx ⟨fates, 0, []⟩, eSl T takes.length e 1 (takes.map Value.bool), eRows B ps.length d ps]) ((h.nilRow 113 2).pool0)
  replace h := h.rkShut
  have hB0 := Both.new fates
  go_loopw [9, 38] (fun kv iv wr => ∃ (i k : Nat) (x y : Lk) (kx ky : LkAt), kv = .int .i64 (k : Int) ∧ iv = .int .i64 (i : Int) ∧ i ≤ takes.length ∧ k ≤ ps.length ∧ Hid (Both fates k x y) ∧ St (fun _ => False) w0 wr [eRk gy ky y, eLk gx kx x, eSl T takes.length e 1 (takes.map Value.bool), eRows B ps.length d ps]) (fun _ iv _ => takes.length - (intOf iv).toNat)
  case atStart => exact ⟨0, 0, _, _, _, _, rfl, rfl, Nat.zero_le _, Nat.zero_le _, Lib.hid hB0, h⟩
  case round =>
    clear h hB0
    obtain ⟨i, k, x, y, kx, ky, rfl, rfl, hi, hk, HB, h⟩ := hrel
    by_cases hil : i < takes.length
    · have f1 : (i : Int) < (takes.length : Int) := by omega
      have t0 : ((i : Int)).toNat = i := by omega
      obtain ⟨tk, htk⟩ : ∃ tk, takes[i] = tk := ⟨_, rfl⟩
      obtain ⟨bT, oT, rfl, _, hcT⟩ := (h.sl T takes.length e).pos (by omega)
      have hct : wr.cell? ⟨bT, oT + i, none⟩ = some (.bool tk) := hcT i _ (by rw [← htk]; simp [hil])
      have hsx := HB.out.sx
      have hsy := HB.out.sy
      have hfx := HB.out.fx
      have hfy := HB.out.fy
      have hlx := HB.out.len
      have hly := HB.out.length
      have hxf : x.fates.length ≤ 30 := by rw [hfx]; omega
      have hyf : y.fates.length ≤ 30 := by rw [hfy]; omega
      have hxs : x.sent ≤ 30 := by omega
      have hys : y.sent ≤ 30 := by omega
      have hxl : x.wait.length ≤ 90 := by omega
      have hyl : y.wait.length ≤ 90 := by omega
      have Hly := Lib.hid hly
      clear htk hcT hsx hsy hfx hfy hlx hly
      cases tk with
      | false =>
        by_cases hkp : k < ps.length
        · have f2 : (k : Int) < (ps.length : Int) := by omega
          have t1 : ((k : Int)).toNat = k := by omega
          obtain ⟨p, hp⟩ : ∃ p, ps[k] = p := ⟨_, rfl⟩
          have hpm : p ∈ ps := by rw [← hp]; exact List.getElem_mem _
          have hrw := h.rowsAt B ps.length d
          obtain ⟨bB, oB, rfl, _⟩ := hrw.1.pos (by omega)
          have hcB : ∀ {w}, Sl w (some ⟨bB, oB, none⟩) ps.length d 1 (ps.flatMap rowc) → w.cell? ⟨bB, oB + k, none⟩ = some (.slice p.A p.n p.c) := fun hs => by
            have := hs.elemAt rowc_length hkp (by omega) 0 _ rfl
            rw [hp] at this
            simpa using this
          have hpn := (hrw.2 p hpm).n_eq
          have HB2 := HB
          clear hrw hp
          by_cases hlong : 100 < p.n
          · have f3 : (100 : Int) < (p.n : Int) := by omega
            go_wp2_with (first
              | (refine wl_at 41 rfl ?_; refine wl_reads rfl (ex_load1_at _ _ rfl bT (oT + i) rfl (.bool false) hct) ?_)
              | (refine wl_at 53 rfl ?_; refine wl_reads rfl (ex_load1_at _ _ rfl bB (oB + k) rfl (.slice p.A p.n p.c) (hcB (h.rowsAt (some ⟨bB, oB, none⟩) ps.length d).1)) ?_))
            go_ret
            exact ⟨rfl, h.step.below⟩
          · have f3 : ¬ (100 : Int) < (p.n : Int) := by omega
            have hpl : p.l.length ≤ 100 := by omega
            have Hpl := Lib.hid hpl
            have s1 := True.intro
            clear hpn hpl HB
            replace h := h.oneRow (some ⟨bB, oB, none⟩) ps.length d hpm
            have f2 : (k : Int) < (ps.length : Int) := by omega
            go_wp2_with (first
              | (refine wl_at 41 rfl ?_; refine wl_reads rfl (ex_load1_at _ _ rfl bT (oT + i) rfl (.bool false) hct) ?_)
              | (refine wl_at 53 rfl ?_; refine wl_reads rfl (ex_load1_at _ _ rfl bB (oB + k) rfl (.slice p.A p.n p.c) (hcB (h.rowsAt (some ⟨bB, oB, none⟩) ps.length d).1)) ?_)
              | (refine wl_at 60 rfl ?_; refine wl_reads rfl (ex_load1_at _ _ rfl bB (oB + k) rfl (.slice p.A p.n p.c) (hcB (h.rowsAt (some ⟨bB, oB, none⟩) ps.length d).1)) ?_)
              | (refine wl_at 66 rfl ?_; refine wl_reads rfl (ex_load1_at _ _ rfl bB (oB + k) rfl (.slice p.A p.n p.c) (hcB (h.rowsAt (some ⟨bB, oB, none⟩) ps.length d).1)) ?_)
              | (go_at_call 26; refine (lk_send (g := gx) (B := p.A) (m := p.n) (d := p.c) (b := p.l) h (by omega) (by omega) (by omega) (by omega)).mono ?_; clear h; rintro r w ⟨rfl, kx2, j, z, hz0, hz1, hz2, h⟩; have Hz0 := Lib.hid hz0; have Hz1 := Lib.hid hz1; have Hz2 := Lib.hid hz2; clear hz0 hz1 hz2)
              | (go_at_call 27; refine (rk_send (g := gy) (B := p.A) (m := p.n) (d := p.c) (b := p.l) h (by omega) (by omega) (by omega) (by omega)).mono ?_; clear h; rintro r w ⟨rfl, ky2, ys, hys2, h⟩; obtain ⟨x2, y2, hb3, h⟩ : ∃ x2 y2, Both fates (k + 1) x2 y2 ∧ St (fun _ => False) w0 w [eRk gy ky2 y2, eLk gx kx2 x2, eSl (some ⟨bT, oT, none⟩) takes.length e 1 (takes.map Value.bool), eRows (some ⟨bB, oB, none⟩) ps.length d ps] := ⟨_, _, HB2.out.send Hpl.out Hz0.out Hz1.out Hz2.out hys2, h.to⟩; clear hys2 Hz0 Hz1 Hz2; have HB3 := Lib.hid hb3; have hne : ((x2.wait.length : Int) != (y2.wait.length : Int)) = false := (by rw [hb3.length]; simp); clear hb3)
              | (go_at_call 30; refine (lk_waiting (g := gx) h).mono ?_; rintro r w ⟨rfl, rfl⟩)
              | (go_at_call 31; refine (rk_waiting (g := gy) h).mono ?_; rintro r w ⟨rfl, rfl⟩))
            refine ⟨⟨i + 1, k + 1, x2, y2, kx2, ky2, by push_cast; rfl, by push_cast; rfl, by omega, by omega, HB3, h.to⟩, ?_⟩
            simp only [intOf]
            omega
        · have f2 : ¬ (k : Int) < (ps.length : Int) := by omega
          have hne : ((x.wait.length : Int) != (y.wait.length : Int)) = false := by rw [Hly.out]; simp
          go_wp2_with (first
              | (refine wl_at 41 rfl ?_; refine wl_reads rfl (ex_load1_at _ _ rfl bT (oT + i) rfl (.bool false) hct) ?_)
              | (go_at_call 30; refine (lk_waiting (g := gx) h).mono ?_; rintro r w ⟨rfl, rfl⟩)
              | (go_at_call 31; refine (rk_waiting (g := gy) h).mono ?_; rintro r w ⟨rfl, rfl⟩))
          refine ⟨⟨i + 1, k, x, y, kx, ky, rfl, by push_cast; rfl, by omega, by omega, HB, h.to⟩, ?_⟩
          simp only [intOf]
          omega
      | true =>
        have u1 := True.intro
        by_cases hx0 : x.wait = []
        · have hy0 : y.wait = [] := List.eq_nil_of_length_eq_zero (by rw [Hly.out, hx0]; rfl)
          have Hx0 := Lib.hid hx0
          have Hy0 := Lib.hid hy0
          have hne : ((x.wait.length : Int) != (y.wait.length : Int)) = false := by rw [Hly.out]; simp
          clear hx0 hy0
          go_wp2_with (first
              | (refine wl_at 41 rfl ?_; refine wl_reads rfl (ex_load1_at _ _ rfl bT (oT + i) rfl (.bool true) hct) ?_)
              | (go_at_call 28; refine (lk_receive0 (g := gx) h Hx0.out).mono ?_; rintro r w ⟨rfl, rfl⟩)
              | (go_at_call 29; refine (rk_receive0 (g := gy) h Hy0.out).mono ?_; rintro r w ⟨rfl, rfl⟩)
              | (refine wl_at 86 rfl ?_; refine wl_reads rfl (ex_string _ _ _ rfl Try.underlying5 Try.underlying9 none 0 0 rfl (l := []) (Sl.nil _ _)) ?_)
              | (refine wl_at 88 rfl ?_; refine wl_reads rfl (ex_string _ _ _ rfl Try.underlying5 Try.underlying9 none 0 0 rfl (l := []) (Sl.nil _ _)) ?_)
              | (go_at_call 30; refine (lk_waiting (g := gx) h).mono ?_; rintro r w ⟨rfl, rfl⟩)
              | (go_at_call 31; refine (rk_waiting (g := gy) h).mono ?_; rintro r w ⟨rfl, rfl⟩))
          refine ⟨⟨i + 1, k, x, y, kx, ky, rfl, by push_cast; rfl, by omega, by omega, HB, h.to⟩, ?_⟩
          simp only [intOf]
          omega
        · obtain ⟨xf, xs, xw⟩ := x
          cases xw with
          | nil => exact absurd rfl hx0
          | cons m p =>
          clear hx0
          have hml : m.body.length ≤ 100 := HB.out.short m List.mem_cons_self
          have hpl : p.length ≤ 90 := by simp at hxl; omega
          have hy0 : 0 < y.wait.length := by rw [Hly.out]; simp
          go_wp2_with (first
              | (refine wl_at 41 rfl ?_; refine wl_reads rfl (ex_load1_at _ _ rfl bT (oT + i) rfl (.bool true) hct) ?_)
              | (go_at_call 28; refine (lk_receive1 (g := gx) (x := m) (p := p) h (by omega) (by omega)).mono ?_; clear h; rintro r w ⟨A1, a1, kx2, rfl, h⟩)
              | (go_at_call 29; refine (rk_receive1 (g := gy) h hy0 (by omega)).mono ?_; clear h; rintro r w ⟨i2, ky2, hf, rfl, h⟩; obtain ⟨hbd, hb3⟩ := HB.out.recv hf; generalize y.wait[i2]'hf.lt = my at *; obtain ⟨x2, y2, hb4, h⟩ : ∃ x2 y2, Both fates k x2 y2 ∧ St (fun _ => False) w0 w [eSl my.A my.body.length my.c 1 (u8s my.body), eOwn 5 1 A1 m.body.length a1 (u8s m.body), eRk gy ky2 y2, eLk gx kx2 x2, eSl (some ⟨bT, oT, none⟩) takes.length e 1 (takes.map Value.bool), eRows B ps.length d ps] := ⟨_, _, hb3, h.to⟩; clear hb3 hf; have HB3 := Lib.hid hb4; have hne : ((x2.wait.length : Int) != (y2.wait.length : Int)) = false := (by rw [hb4.length]; simp); rw [hbd] at h ⊢; clear hb4 hbd)
              | (refine wl_at 86 rfl ?_; refine wl_reads rfl (ex_string _ _ _ rfl Try.underlying5 Try.underlying9 A1 m.body.length a1 rfl (h.sl A1 m.body.length a1)) ?_)
              | (refine wl_at 88 rfl ?_; refine wl_reads rfl (ex_string _ _ _ rfl Try.underlying5 Try.underlying9 my.A m.body.length my.c rfl (h.sl my.A m.body.length my.c)) ?_)
              | (go_at_call 30; refine (lk_waiting (g := gx) h).mono ?_; rintro r w ⟨rfl, rfl⟩)
              | (go_at_call 31; refine (rk_waiting (g := gy) h).mono ?_; rintro r w ⟨rfl, rfl⟩))
          refine ⟨⟨i + 1, k, x2, y2, kx2, ky2, rfl, by push_cast; rfl, by omega, by omega, HB3, h.to⟩, ?_⟩
          simp only [intOf]
          omega
    · have hin : i = takes.length := by omega
      subst hin
      go_wp2
      go_ret
      exact ⟨rfl, h.step.below⟩
end Go.Proofs.Ythnjfpjojmcccaa
