/- The law EnvelBack: an envelope that is put is read as it was; bytes that are read are put as they were. -/
import Derived.Test.YtjnaiicgincndaaEnvelReads
namespace Go.Proofs.Ytjnaiicgincndaa
open Go.RowKit
set_option linter.unusedVariables false
set_option linter.unusedSimpArgs false

/-- Something got of a callee of the elder form: a row of new blocks. -/
theorem St.got {S : Nat → Prop} {w0 w w' : World} {L : List Ent} (h : St S w0 w L) {A : Option Addr} {n c : Nat} {xs : List Value} (hx : Sl w' A n c 1 xs) (hs : Step (fun _ => False) w w') (hA : ∀ k, At A k → w.heap.size ≤ k) : St S w0 w' (eGot A n c 1 xs :: L) :=
  h.add hs (eGot A n c 1 xs) ⟨by omega, hx⟩ (fun k hk => hA k hk.2) (fun _ hk => hk)
def outM (e : Env) : List UInt8 := if mayM e then putB e else []
def outC (e : Env) : Int := if mayM e then 0 else 90
theorem put_code2 {w : World} {e : Env} {A B : Option Addr} {n c m d : Nat} (he : EnvIs w e A n c B m d) (hn : n ≤ 1000000) (hm : m ≤ 1000000) :
    Calls Try.prog 28 #[.agg #[.int .i64 e.kind, .int .u32 e.realm, .int .u32 e.epoch, .slice A n c, .slice B m d]] w fun r w' => ∃ A' n' c', r = .returned (.tuple #[.slice A' n' c', .int .i64 (outC e)]) ∧ Sl w' A' n' c' 1 (u8s (outM e)) ∧ Step (fun _ => False) w w' ∧ (∀ k, At A' k → w.heap.size ≤ k) := put_code he hn hm
theorem kind_wf {k : Int} (h0 : 0 ≤ k) (h : k ≤ 3) : (Lit.int .i64 k).wf = true := by
  have : k = 0 ∨ k = 1 ∨ k = 2 ∨ k = 3 := by omega
  rcases this with rfl | rfl | rfl | rfl <;> rfl

set_option maxRecDepth 100000 in
set_option maxHeartbeats 4000000 in
theorem walk_EnvelBack {w : World} {e : Env} {A B : Option Addr} {n c m d : Nat} (he : EnvIs w e A n c B m d) {l : List UInt8} {D : Option Addr} {q f : Nat} (hl : Sl w D q f 1 (u8s l)) :
    Calls Try.prog 7 #[.agg #[.int .i64 e.kind, .int .u32 e.realm, .int .u32 e.epoch, .slice A n c, .slice B m d], .slice D q f] w fun r w' => r = .returned (.bool true) ∧ Below w.heap.size w w' := by
  have h := ((St.read0 hl (by omega)).reading he.body (by omega) (fun k hk => ⟨he.body.ft_lt (by omega) hk, id⟩)).reading he.links (by omega) (fun k hk => ⟨he.links.ft_lt (by omega) hk, id⟩)
  have hk := he.kind
  have hr := he.realm
  have hp := he.epoch
  have hn := he.n_eq
  have hm := he.m_eq
  obtain ⟨k, r, p, I, t⟩ := e
  simp only at h hk hr hp hn hm ⊢
  clear he hl
  subst hn
  subst hm
  obtain ⟨fw, hfw⟩ : ∃ fw, (decide (I.length ≤ 40) && decide (t.length ≤ 1000)) = fw := ⟨_, rfl⟩
  have Hf := Lib.hid hfw
  cases fw with
  | false =>
    clear hfw
    go_enter Try.func7, Try.ntmps7
    go_wp2_with (first
      | (go_at_call 23; refine (envel_awake _).mono ?_; rintro r w ⟨rfl, hs⟩; replace h := h.quiet hs; clear hs) | (refine wl_runs rfl (ex_box h 48 _ rfl [_, _, _, _, _] rfl) ?_; clear h; rintro _ w ⟨g0, rfl, h⟩) | (go_at_call 27; refine (few_env (e := ⟨k, r, p, I, t⟩)).mono ?_; rintro r w ⟨rfl, hs⟩; rw [Hf.out]; replace h := h.quiet hs; clear hs) | (have q := Ho1.out; clear Ho1; go_at_call 28; refine (put_code2 (e := ⟨k, r, p, I, t⟩) ⟨h.sl A I.length c, h.sl B t.length d, hk, hr, hp⟩ (by omega) (by omega)).mono ?_; rw [q, Hc1.out]; clear q; rintro e w ⟨A1, n1, c1, rfl, hx, hs, hA⟩; replace h := h.got hx hs hA; clear hx hs hA) | (have q := HO1.out; clear HO1; go_at_call 24; refine (env_of (A := A1) (n := n1) (c := c1) (l := out1) h (by have := (h.sl A1 n1 c1).n_eq; omega)).mono ?_; rw [q, HE1.out, HC1.out]; clear h q; rintro e w ⟨A2, c2, B2, d2, rfl, h⟩) | (go_at_call 24; refine (env_of (l := l) h (by omega)).mono ?_; rw [HO2.out, HE2.out, HC2.out]; clear h; rintro e w ⟨A3, c3, B3, d3, rfl, h⟩) | (clear tr; refine wl_runs rfl (ex_alloc h 48 rfl) ?_; clear h; rintro _ w ⟨g1, rfl, h⟩) | (refine wl_runs rfl (ex_alloc h 48 rfl) ?_; clear h; rintro _ w ⟨g2, rfl, h⟩) | (refine wl_runs rfl (ex_store h _ _ _ rfl _ _ rfl [_, _, _, _, _] rfl) ?_; clear h; rintro _ w ⟨rfl, h⟩; try dsimp only [Act.put]) | (go_at_call 28; refine (put_code2 (e := ⟨k2, r2, p2, I2, t2⟩) ⟨h.sl A3 I2.length c3, h.sl B3 t2.length d3, hk2, hr2, hp2⟩ (by omega) (by omega)).mono ?_; rw [Ho2.out, Hc2.out]; rintro e w ⟨A4, n4, c4, rfl, hx, hs, hA⟩; replace h := h.got hx hs hA; clear hx hs hA)
      | (refine wl_reads rfl (ex_loadv h _ _ rfl _ _ rfl) ?_) | (refine wl_runs rfl (ex_store1i h _ _ _ rfl _ _ rfl _ _ rfl) ?_; clear h; rintro _ w ⟨rfl, h⟩; try dsimp only [Act.put]) | (refine wl_runs rfl (ex_store1s h _ _ _ rfl _ _ rfl _ _ _ rfl) ?_; clear h; rintro _ w ⟨rfl, h⟩; try dsimp only [Act.put]) | (refine wl_runs rfl (ex_store1b h _ _ _ rfl _ _ rfl _ rfl) ?_; clear h; rintro _ w ⟨rfl, h⟩; try dsimp only [Act.put]) | (refine wl_runs rfl (ex_store1t h _ _ _ rfl _ _ rfl _ rfl) ?_; clear h; rintro _ w ⟨rfl, h⟩; try dsimp only [Act.put]) | (refine wl_runs rfl (ex_store1p h _ _ _ rfl _ _ rfl _ rfl) ?_; clear h; rintro _ w ⟨rfl, h⟩; try dsimp only [Act.put]) | (refine wl_runs rfl (ex_store1m h _ _ _ rfl _ _ rfl _ rfl) ?_; clear h; rintro _ w ⟨rfl, h⟩; try dsimp only [Act.put]) | (refine wl_runs rfl (ex_store h _ _ _ rfl _ _ rfl _ rfl) ?_; clear h; rintro _ w ⟨rfl, h⟩; try dsimp only [Act.put]) | (refine wl_runs rfl (ex_alloc h _ rfl) ?_; clear h; rintro _ w ⟨g, rfl, h⟩) | (refine wl_runs rfl (ex_box h _ _ rfl _ rfl) ?_; clear h; rintro _ w ⟨g, rfl, h⟩) | (refine wl_runs rfl (ex_box1i h _ _ rfl _ _ rfl) ?_; clear h; rintro _ w ⟨g, rfl, h⟩) | (refine wl_runs rfl (ex_box1s h _ _ rfl _ _ _ rfl) ?_; clear h; rintro _ w ⟨g, rfl, h⟩) | (refine wl_runs rfl (ex_box1b h _ _ rfl _ rfl) ?_; clear h; rintro _ w ⟨g, rfl, h⟩) | (refine wl_runs rfl (ex_box1t h _ _ rfl _ rfl) ?_; clear h; rintro _ w ⟨g, rfl, h⟩) | (refine wl_runs rfl (ex_box1p h _ _ rfl _ rfl) ?_; clear h; rintro _ w ⟨g, rfl, h⟩) | (refine wl_runs rfl (ex_box1m h _ _ rfl _ rfl) ?_; clear h; rintro _ w ⟨g, rfl, h⟩) | (refine wl_runs rfl (ex_slice1 h _ _ rfl _ rfl) ?_; clear h; rintro _ w ⟨g, rfl, h⟩) | (refine wl_runs rfl (ex_slice1i h _ _ rfl _ _ rfl) ?_; clear h; rintro _ w ⟨g, rfl, h⟩) | (refine wl_runs rfl (ex_slice1s h _ _ rfl _ _ _ rfl) ?_; clear h; rintro _ w ⟨g, rfl, h⟩) | (refine wl_runs rfl (ex_slice1b h _ _ rfl _ rfl) ?_; clear h; rintro _ w ⟨g, rfl, h⟩) | (refine wl_runs rfl (ex_slice1t h _ _ rfl _ rfl) ?_; clear h; rintro _ w ⟨g, rfl, h⟩) | (refine wl_runs rfl (ex_slice1p h _ _ rfl _ rfl) ?_; clear h; rintro _ w ⟨g, rfl, h⟩) | (refine wl_runs rfl (ex_slice1m h _ _ rfl _ rfl) ?_; clear h; rintro _ w ⟨g, rfl, h⟩) | (refine wl_reads rfl (ex_lit0 _ rfl) ?_))
    go_ret
    exact ⟨rfl, h.step.below⟩
  | true =>
    have hb : I.length ≤ 40 ∧ t.length ≤ 1000 := by simpa using hfw
    obtain ⟨hn, hm⟩ := hb
    clear hfw
    by_cases hq : q ≤ 2000
    · have hnum := envOf_nums l
      have hle := envOf_le l
      have hback : ∀ e2, envOf l = some e2 → outM e2 = l ∧ outC e2 = 0 := fun e2 h2 => by
        obtain ⟨h3, h4⟩ := envOf_put h2
        exact ⟨by rw [outM, if_pos h4, ← h3], by rw [outC, if_pos h4]⟩
      have Hback := Lib.hid hback
      obtain ⟨O2, hO2⟩ : ∃ O2, envOf l = O2 := ⟨_, rfl⟩
      rw [hO2] at hnum hle
      have HO2 := Lib.hid hO2
      obtain ⟨E2, hE2⟩ : ∃ E2, O2.getD envZ = E2 := ⟨_, rfl⟩
      rw [hE2] at hnum hle
      have HE2 := Lib.hid hE2
      obtain ⟨C2, hC2⟩ : ∃ C2, codeM O2 90 = C2 := ⟨_, rfl⟩
      have HC2 := Lib.hid hC2
      obtain ⟨out2, ho2⟩ : ∃ out2, outM E2 = out2 := ⟨_, rfl⟩
      have Ho2 := Lib.hid ho2
      obtain ⟨cc2, hc2⟩ : ∃ cc2, outC E2 = cc2 := ⟨_, rfl⟩
      have Hc2 := Lib.hid hc2
      have hz : (C2 = 0 ∧ cc2 = 0 ∧ l = out2) ∨ C2 = 90 := by
        cases O2 with
        | none => exact .inr hC2.symm
        | some e2 =>
          obtain ⟨h3, h4⟩ := Hback.out e2 hO2
          have h5 : e2 = E2 := hE2
          subst h5
          exact .inl ⟨hC2.symm, by rw [← hc2, h4], by rw [← ho2, h3]⟩
      clear hO2 hE2 hC2 ho2 hc2 hback Hback
      obtain ⟨k2, r2, p2, I2, t2⟩ := E2
      simp only at hnum hle
      obtain ⟨hk20, hk23, hr2, hp2⟩ := hnum
      obtain ⟨hl2, ht2⟩ := hle
      have hk2 := kind_wf hk20 hk23
      obtain ⟨out1, ho1⟩ : ∃ out1, outM ⟨k, r, p, I, t⟩ = out1 := ⟨_, rfl⟩
      have Ho1 := Lib.hid ho1
      obtain ⟨O1, hO1⟩ : ∃ O1, envOf out1 = O1 := ⟨_, rfl⟩
      have HO1 := Lib.hid hO1
      have hol : out1.length ≤ 100000000 := by
        rw [← ho1, outM]
        split
        · rename_i hm1
          have hm2 := hm1
          simp only [mayM, Bool.and_eq_true, decide_eq_true_eq] at hm2
          have h1 := adB_len (e := ⟨k, r, p, I, t⟩) (w := w) (A := A) (B := B) (n := I.length) (c := c) (m := t.length) (d := d) ⟨h.sl A I.length c, h.sl B t.length d, hk, hr, hp⟩ (by show 0 ≤ k; omega) (by omega)
          have h2 := nM_ten (n := t.length) (by omega)
          rw [putB, List.length_append, List.length_append]
          show _ + (nM t.length).length + t.length ≤ _
          omega
        · simp
      have hss := str_eq_self l
      have tr := True.intro
      by_cases hmay : mayM ⟨k, r, p, I, t⟩ = true
      · have hO1s : O1 = some ⟨k, r, p, I, t⟩ := by
          rw [← hO1, ← ho1, outM, if_pos hmay]
          exact envOf_of hmay hr hp
        have HE1 := Lib.hid (show O1.getD envZ = ⟨k, r, p, I, t⟩ by rw [hO1s]; rfl)
        have HC1 := Lib.hid (show codeM O1 90 = 0 by rw [hO1s]; rfl)
        have Hc1 := Lib.hid (show outC ⟨k, r, p, I, t⟩ = 0 by rw [outC, if_pos hmay])
        clear ho1 hO1 hmay hO1s
        rcases hz with ⟨rfl, rfl, rfl⟩ | rfl
        all_goals
          go_enter Try.func7, Try.ntmps7
          go_wp2_with (first
            | (go_at_call 23; refine (envel_awake _).mono ?_; rintro r w ⟨rfl, hs⟩; replace h := h.quiet hs; clear hs) | (refine wl_runs rfl (ex_box h 48 _ rfl [_, _, _, _, _] rfl) ?_; clear h; rintro _ w ⟨g0, rfl, h⟩) | (go_at_call 27; refine (few_env (e := ⟨k, r, p, I, t⟩)).mono ?_; rintro r w ⟨rfl, hs⟩; rw [Hf.out]; replace h := h.quiet hs; clear hs) | (have q := Ho1.out; clear Ho1; go_at_call 28; refine (put_code2 (e := ⟨k, r, p, I, t⟩) ⟨h.sl A I.length c, h.sl B t.length d, hk, hr, hp⟩ (by omega) (by omega)).mono ?_; rw [q, Hc1.out]; clear q; rintro e w ⟨A1, n1, c1, rfl, hx, hs, hA⟩; replace h := h.got hx hs hA; clear hx hs hA) | (have q := HO1.out; clear HO1; go_at_call 24; refine (env_of (A := A1) (n := n1) (c := c1) (l := out1) h (by have := (h.sl A1 n1 c1).n_eq; omega)).mono ?_; rw [q, HE1.out, HC1.out]; clear h q; rintro e w ⟨A2, c2, B2, d2, rfl, h⟩) | (go_at_call 24; refine (env_of (l := l) h (by omega)).mono ?_; rw [HO2.out, HE2.out, HC2.out]; clear h; rintro e w ⟨A3, c3, B3, d3, rfl, h⟩) | (clear tr; refine wl_runs rfl (ex_alloc h 48 rfl) ?_; clear h; rintro _ w ⟨g1, rfl, h⟩) | (refine wl_runs rfl (ex_alloc h 48 rfl) ?_; clear h; rintro _ w ⟨g2, rfl, h⟩) | (refine wl_runs rfl (ex_store h _ _ _ rfl _ _ rfl [_, _, _, _, _] rfl) ?_; clear h; rintro _ w ⟨rfl, h⟩; try dsimp only [Act.put]) | (go_at_call 28; refine (put_code2 (e := ⟨k2, r2, p2, I2, t2⟩) ⟨h.sl A3 I2.length c3, h.sl B3 t2.length d3, hk2, hr2, hp2⟩ (by omega) (by omega)).mono ?_; rw [Ho2.out, Hc2.out]; rintro e w ⟨A4, n4, c4, rfl, hx, hs, hA⟩; replace h := h.got hx hs hA; clear hx hs hA)
            | (go_at_call 26; refine (same_env (e := ⟨k, r, p, I, t⟩) (h.sl A2 I.length c2) (h.sl B2 t.length d2) (h.sl A I.length c) (h.sl B t.length d) (by show I.length ≤ _; omega)).mono ?_; rintro e w ⟨rfl, hs⟩; replace h := h.quiet hs; clear hs)
            | (refine wl_reads rfl (ex_string _ _ _ rfl Try.underlying5 Try.underlying9 A4 n4 c4 rfl (h.sl A4 n4 c4)) ?_)
            | (refine wl_reads rfl (ex_string _ _ _ rfl Try.underlying5 Try.underlying9 D q f rfl (h.sl D q f)) ?_)
            | (refine wl_reads rfl (ex_loadv h _ _ rfl _ _ rfl) ?_) | (refine wl_runs rfl (ex_store1i h _ _ _ rfl _ _ rfl _ _ rfl) ?_; clear h; rintro _ w ⟨rfl, h⟩; try dsimp only [Act.put]) | (refine wl_runs rfl (ex_store1s h _ _ _ rfl _ _ rfl _ _ _ rfl) ?_; clear h; rintro _ w ⟨rfl, h⟩; try dsimp only [Act.put]) | (refine wl_runs rfl (ex_store1b h _ _ _ rfl _ _ rfl _ rfl) ?_; clear h; rintro _ w ⟨rfl, h⟩; try dsimp only [Act.put]) | (refine wl_runs rfl (ex_store1t h _ _ _ rfl _ _ rfl _ rfl) ?_; clear h; rintro _ w ⟨rfl, h⟩; try dsimp only [Act.put]) | (refine wl_runs rfl (ex_store1p h _ _ _ rfl _ _ rfl _ rfl) ?_; clear h; rintro _ w ⟨rfl, h⟩; try dsimp only [Act.put]) | (refine wl_runs rfl (ex_store1m h _ _ _ rfl _ _ rfl _ rfl) ?_; clear h; rintro _ w ⟨rfl, h⟩; try dsimp only [Act.put]) | (refine wl_runs rfl (ex_store h _ _ _ rfl _ _ rfl _ rfl) ?_; clear h; rintro _ w ⟨rfl, h⟩; try dsimp only [Act.put]) | (refine wl_runs rfl (ex_alloc h _ rfl) ?_; clear h; rintro _ w ⟨g, rfl, h⟩) | (refine wl_runs rfl (ex_box h _ _ rfl _ rfl) ?_; clear h; rintro _ w ⟨g, rfl, h⟩) | (refine wl_runs rfl (ex_box1i h _ _ rfl _ _ rfl) ?_; clear h; rintro _ w ⟨g, rfl, h⟩) | (refine wl_runs rfl (ex_box1s h _ _ rfl _ _ _ rfl) ?_; clear h; rintro _ w ⟨g, rfl, h⟩) | (refine wl_runs rfl (ex_box1b h _ _ rfl _ rfl) ?_; clear h; rintro _ w ⟨g, rfl, h⟩) | (refine wl_runs rfl (ex_box1t h _ _ rfl _ rfl) ?_; clear h; rintro _ w ⟨g, rfl, h⟩) | (refine wl_runs rfl (ex_box1p h _ _ rfl _ rfl) ?_; clear h; rintro _ w ⟨g, rfl, h⟩) | (refine wl_runs rfl (ex_box1m h _ _ rfl _ rfl) ?_; clear h; rintro _ w ⟨g, rfl, h⟩) | (refine wl_runs rfl (ex_slice1 h _ _ rfl _ rfl) ?_; clear h; rintro _ w ⟨g, rfl, h⟩) | (refine wl_runs rfl (ex_slice1i h _ _ rfl _ _ rfl) ?_; clear h; rintro _ w ⟨g, rfl, h⟩) | (refine wl_runs rfl (ex_slice1s h _ _ rfl _ _ _ rfl) ?_; clear h; rintro _ w ⟨g, rfl, h⟩) | (refine wl_runs rfl (ex_slice1b h _ _ rfl _ rfl) ?_; clear h; rintro _ w ⟨g, rfl, h⟩) | (refine wl_runs rfl (ex_slice1t h _ _ rfl _ rfl) ?_; clear h; rintro _ w ⟨g, rfl, h⟩) | (refine wl_runs rfl (ex_slice1p h _ _ rfl _ rfl) ?_; clear h; rintro _ w ⟨g, rfl, h⟩) | (refine wl_runs rfl (ex_slice1m h _ _ rfl _ rfl) ?_; clear h; rintro _ w ⟨g, rfl, h⟩) | (refine wl_reads rfl (ex_lit0 _ rfl) ?_))
          go_ret
          exact ⟨rfl, h.step.below⟩
      · have Hc1 := Lib.hid (show outC ⟨k, r, p, I, t⟩ = 90 by rw [outC, if_neg hmay])
        obtain ⟨E1, hE1⟩ : ∃ E1, O1.getD envZ = E1 := ⟨_, rfl⟩
        have HE1 := Lib.hid hE1
        obtain ⟨C1, hC1⟩ : ∃ C1, codeM O1 90 = C1 := ⟨_, rfl⟩
        have HC1 := Lib.hid hC1
        obtain ⟨k1, r1, p1, I1, t1⟩ := E1
        clear ho1 hO1 hmay hE1 hC1
        rcases hz with ⟨rfl, rfl, rfl⟩ | rfl
        all_goals
          go_enter Try.func7, Try.ntmps7
          go_wp2_with (first
            | (go_at_call 23; refine (envel_awake _).mono ?_; rintro r w ⟨rfl, hs⟩; replace h := h.quiet hs; clear hs) | (refine wl_runs rfl (ex_box h 48 _ rfl [_, _, _, _, _] rfl) ?_; clear h; rintro _ w ⟨g0, rfl, h⟩) | (go_at_call 27; refine (few_env (e := ⟨k, r, p, I, t⟩)).mono ?_; rintro r w ⟨rfl, hs⟩; rw [Hf.out]; replace h := h.quiet hs; clear hs) | (have q := Ho1.out; clear Ho1; go_at_call 28; refine (put_code2 (e := ⟨k, r, p, I, t⟩) ⟨h.sl A I.length c, h.sl B t.length d, hk, hr, hp⟩ (by omega) (by omega)).mono ?_; rw [q, Hc1.out]; clear q; rintro e w ⟨A1, n1, c1, rfl, hx, hs, hA⟩; replace h := h.got hx hs hA; clear hx hs hA) | (have q := HO1.out; clear HO1; go_at_call 24; refine (env_of (A := A1) (n := n1) (c := c1) (l := out1) h (by have := (h.sl A1 n1 c1).n_eq; omega)).mono ?_; rw [q, HE1.out, HC1.out]; clear h q; rintro e w ⟨A2, c2, B2, d2, rfl, h⟩) | (go_at_call 24; refine (env_of (l := l) h (by omega)).mono ?_; rw [HO2.out, HE2.out, HC2.out]; clear h; rintro e w ⟨A3, c3, B3, d3, rfl, h⟩) | (clear tr; refine wl_runs rfl (ex_alloc h 48 rfl) ?_; clear h; rintro _ w ⟨g1, rfl, h⟩) | (refine wl_runs rfl (ex_alloc h 48 rfl) ?_; clear h; rintro _ w ⟨g2, rfl, h⟩) | (refine wl_runs rfl (ex_store h _ _ _ rfl _ _ rfl [_, _, _, _, _] rfl) ?_; clear h; rintro _ w ⟨rfl, h⟩; try dsimp only [Act.put]) | (go_at_call 28; refine (put_code2 (e := ⟨k2, r2, p2, I2, t2⟩) ⟨h.sl A3 I2.length c3, h.sl B3 t2.length d3, hk2, hr2, hp2⟩ (by omega) (by omega)).mono ?_; rw [Ho2.out, Hc2.out]; rintro e w ⟨A4, n4, c4, rfl, hx, hs, hA⟩; replace h := h.got hx hs hA; clear hx hs hA)
            | (refine wl_reads rfl (ex_string _ _ _ rfl Try.underlying5 Try.underlying9 A4 n4 c4 rfl (h.sl A4 n4 c4)) ?_)
            | (refine wl_reads rfl (ex_string _ _ _ rfl Try.underlying5 Try.underlying9 D q f rfl (h.sl D q f)) ?_)
            | (refine wl_reads rfl (ex_loadv h _ _ rfl _ _ rfl) ?_) | (refine wl_runs rfl (ex_store1i h _ _ _ rfl _ _ rfl _ _ rfl) ?_; clear h; rintro _ w ⟨rfl, h⟩; try dsimp only [Act.put]) | (refine wl_runs rfl (ex_store1s h _ _ _ rfl _ _ rfl _ _ _ rfl) ?_; clear h; rintro _ w ⟨rfl, h⟩; try dsimp only [Act.put]) | (refine wl_runs rfl (ex_store1b h _ _ _ rfl _ _ rfl _ rfl) ?_; clear h; rintro _ w ⟨rfl, h⟩; try dsimp only [Act.put]) | (refine wl_runs rfl (ex_store1t h _ _ _ rfl _ _ rfl _ rfl) ?_; clear h; rintro _ w ⟨rfl, h⟩; try dsimp only [Act.put]) | (refine wl_runs rfl (ex_store1p h _ _ _ rfl _ _ rfl _ rfl) ?_; clear h; rintro _ w ⟨rfl, h⟩; try dsimp only [Act.put]) | (refine wl_runs rfl (ex_store1m h _ _ _ rfl _ _ rfl _ rfl) ?_; clear h; rintro _ w ⟨rfl, h⟩; try dsimp only [Act.put]) | (refine wl_runs rfl (ex_store h _ _ _ rfl _ _ rfl _ rfl) ?_; clear h; rintro _ w ⟨rfl, h⟩; try dsimp only [Act.put]) | (refine wl_runs rfl (ex_alloc h _ rfl) ?_; clear h; rintro _ w ⟨g, rfl, h⟩) | (refine wl_runs rfl (ex_box h _ _ rfl _ rfl) ?_; clear h; rintro _ w ⟨g, rfl, h⟩) | (refine wl_runs rfl (ex_box1i h _ _ rfl _ _ rfl) ?_; clear h; rintro _ w ⟨g, rfl, h⟩) | (refine wl_runs rfl (ex_box1s h _ _ rfl _ _ _ rfl) ?_; clear h; rintro _ w ⟨g, rfl, h⟩) | (refine wl_runs rfl (ex_box1b h _ _ rfl _ rfl) ?_; clear h; rintro _ w ⟨g, rfl, h⟩) | (refine wl_runs rfl (ex_box1t h _ _ rfl _ rfl) ?_; clear h; rintro _ w ⟨g, rfl, h⟩) | (refine wl_runs rfl (ex_box1p h _ _ rfl _ rfl) ?_; clear h; rintro _ w ⟨g, rfl, h⟩) | (refine wl_runs rfl (ex_box1m h _ _ rfl _ rfl) ?_; clear h; rintro _ w ⟨g, rfl, h⟩) | (refine wl_runs rfl (ex_slice1 h _ _ rfl _ rfl) ?_; clear h; rintro _ w ⟨g, rfl, h⟩) | (refine wl_runs rfl (ex_slice1i h _ _ rfl _ _ rfl) ?_; clear h; rintro _ w ⟨g, rfl, h⟩) | (refine wl_runs rfl (ex_slice1s h _ _ rfl _ _ _ rfl) ?_; clear h; rintro _ w ⟨g, rfl, h⟩) | (refine wl_runs rfl (ex_slice1b h _ _ rfl _ rfl) ?_; clear h; rintro _ w ⟨g, rfl, h⟩) | (refine wl_runs rfl (ex_slice1t h _ _ rfl _ rfl) ?_; clear h; rintro _ w ⟨g, rfl, h⟩) | (refine wl_runs rfl (ex_slice1p h _ _ rfl _ rfl) ?_; clear h; rintro _ w ⟨g, rfl, h⟩) | (refine wl_runs rfl (ex_slice1m h _ _ rfl _ rfl) ?_; clear h; rintro _ w ⟨g, rfl, h⟩) | (refine wl_reads rfl (ex_lit0 _ rfl) ?_))
          go_ret
          exact ⟨rfl, h.step.below⟩
    · have hq2 : (2000 : Int) < (q : Int) := by omega
      clear hn hm
      go_enter Try.func7, Try.ntmps7
      go_wp2_with (first
        | (go_at_call 23; refine (envel_awake _).mono ?_; rintro r w ⟨rfl, hs⟩; replace h := h.quiet hs; clear hs) | (refine wl_runs rfl (ex_box h 48 _ rfl [_, _, _, _, _] rfl) ?_; clear h; rintro _ w ⟨g0, rfl, h⟩) | (go_at_call 27; refine (few_env (e := ⟨k, r, p, I, t⟩)).mono ?_; rintro r w ⟨rfl, hs⟩; rw [Hf.out]; replace h := h.quiet hs; clear hs) | (have q := Ho1.out; clear Ho1; go_at_call 28; refine (put_code2 (e := ⟨k, r, p, I, t⟩) ⟨h.sl A I.length c, h.sl B t.length d, hk, hr, hp⟩ (by omega) (by omega)).mono ?_; rw [q, Hc1.out]; clear q; rintro e w ⟨A1, n1, c1, rfl, hx, hs, hA⟩; replace h := h.got hx hs hA; clear hx hs hA) | (have q := HO1.out; clear HO1; go_at_call 24; refine (env_of (A := A1) (n := n1) (c := c1) (l := out1) h (by have := (h.sl A1 n1 c1).n_eq; omega)).mono ?_; rw [q, HE1.out, HC1.out]; clear h q; rintro e w ⟨A2, c2, B2, d2, rfl, h⟩) | (go_at_call 24; refine (env_of (l := l) h (by omega)).mono ?_; rw [HO2.out, HE2.out, HC2.out]; clear h; rintro e w ⟨A3, c3, B3, d3, rfl, h⟩) | (clear tr; refine wl_runs rfl (ex_alloc h 48 rfl) ?_; clear h; rintro _ w ⟨g1, rfl, h⟩) | (refine wl_runs rfl (ex_alloc h 48 rfl) ?_; clear h; rintro _ w ⟨g2, rfl, h⟩) | (refine wl_runs rfl (ex_store h _ _ _ rfl _ _ rfl [_, _, _, _, _] rfl) ?_; clear h; rintro _ w ⟨rfl, h⟩; try dsimp only [Act.put]) | (go_at_call 28; refine (put_code2 (e := ⟨k2, r2, p2, I2, t2⟩) ⟨h.sl A3 I2.length c3, h.sl B3 t2.length d3, hk2, hr2, hp2⟩ (by omega) (by omega)).mono ?_; rw [Ho2.out, Hc2.out]; rintro e w ⟨A4, n4, c4, rfl, hx, hs, hA⟩; replace h := h.got hx hs hA; clear hx hs hA)
        | (refine wl_reads rfl (ex_loadv h _ _ rfl _ _ rfl) ?_) | (refine wl_runs rfl (ex_store1i h _ _ _ rfl _ _ rfl _ _ rfl) ?_; clear h; rintro _ w ⟨rfl, h⟩; try dsimp only [Act.put]) | (refine wl_runs rfl (ex_store1s h _ _ _ rfl _ _ rfl _ _ _ rfl) ?_; clear h; rintro _ w ⟨rfl, h⟩; try dsimp only [Act.put]) | (refine wl_runs rfl (ex_store1b h _ _ _ rfl _ _ rfl _ rfl) ?_; clear h; rintro _ w ⟨rfl, h⟩; try dsimp only [Act.put]) | (refine wl_runs rfl (ex_store1t h _ _ _ rfl _ _ rfl _ rfl) ?_; clear h; rintro _ w ⟨rfl, h⟩; try dsimp only [Act.put]) | (refine wl_runs rfl (ex_store1p h _ _ _ rfl _ _ rfl _ rfl) ?_; clear h; rintro _ w ⟨rfl, h⟩; try dsimp only [Act.put]) | (refine wl_runs rfl (ex_store1m h _ _ _ rfl _ _ rfl _ rfl) ?_; clear h; rintro _ w ⟨rfl, h⟩; try dsimp only [Act.put]) | (refine wl_runs rfl (ex_store h _ _ _ rfl _ _ rfl _ rfl) ?_; clear h; rintro _ w ⟨rfl, h⟩; try dsimp only [Act.put]) | (refine wl_runs rfl (ex_alloc h _ rfl) ?_; clear h; rintro _ w ⟨g, rfl, h⟩) | (refine wl_runs rfl (ex_box h _ _ rfl _ rfl) ?_; clear h; rintro _ w ⟨g, rfl, h⟩) | (refine wl_runs rfl (ex_box1i h _ _ rfl _ _ rfl) ?_; clear h; rintro _ w ⟨g, rfl, h⟩) | (refine wl_runs rfl (ex_box1s h _ _ rfl _ _ _ rfl) ?_; clear h; rintro _ w ⟨g, rfl, h⟩) | (refine wl_runs rfl (ex_box1b h _ _ rfl _ rfl) ?_; clear h; rintro _ w ⟨g, rfl, h⟩) | (refine wl_runs rfl (ex_box1t h _ _ rfl _ rfl) ?_; clear h; rintro _ w ⟨g, rfl, h⟩) | (refine wl_runs rfl (ex_box1p h _ _ rfl _ rfl) ?_; clear h; rintro _ w ⟨g, rfl, h⟩) | (refine wl_runs rfl (ex_box1m h _ _ rfl _ rfl) ?_; clear h; rintro _ w ⟨g, rfl, h⟩) | (refine wl_runs rfl (ex_slice1 h _ _ rfl _ rfl) ?_; clear h; rintro _ w ⟨g, rfl, h⟩) | (refine wl_runs rfl (ex_slice1i h _ _ rfl _ _ rfl) ?_; clear h; rintro _ w ⟨g, rfl, h⟩) | (refine wl_runs rfl (ex_slice1s h _ _ rfl _ _ _ rfl) ?_; clear h; rintro _ w ⟨g, rfl, h⟩) | (refine wl_runs rfl (ex_slice1b h _ _ rfl _ rfl) ?_; clear h; rintro _ w ⟨g, rfl, h⟩) | (refine wl_runs rfl (ex_slice1t h _ _ rfl _ rfl) ?_; clear h; rintro _ w ⟨g, rfl, h⟩) | (refine wl_runs rfl (ex_slice1p h _ _ rfl _ rfl) ?_; clear h; rintro _ w ⟨g, rfl, h⟩) | (refine wl_runs rfl (ex_slice1m h _ _ rfl _ rfl) ?_; clear h; rintro _ w ⟨g, rfl, h⟩) | (refine wl_reads rfl (ex_lit0 _ rfl) ?_))
      go_ret
      exact ⟨rfl, h.step.below⟩
end Go.Proofs.Ytjnaiicgincndaa
