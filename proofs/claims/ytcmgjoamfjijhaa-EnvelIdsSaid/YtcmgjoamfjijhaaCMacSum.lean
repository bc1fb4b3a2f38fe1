/- The tag of parts with a key: the walk. -/
import Derived.Test.YtcmgjoamfjijhaaCMac
namespace Go.Proofs.Ytcmgjoamfjijhaa
open Go.RowKit
set_option linter.unusedVariables false
set_option linter.unusedSimpArgs false

theorem catM_le (ps : List RowAt) (h : ∀ p ∈ ps, p.l.length ≤ 100000) : ∀ k, (catM ps k).length ≤ 100000 * k
  | 0 => by simp [catM]
  | k + 1 => by
    by_cases hk : k < ps.length
    · have h1 := catM_le ps h k
      have h2 := h _ (List.getElem_mem hk)
      rw [catM_succ ps hk, List.length_append]
      omega
    · have h1 := catM_le ps h k
      rw [catM, List.take_of_length_le (by omega)]
      rw [catM, List.take_of_length_le (by omega)] at h1
      omega
theorem catM_all (ps : List RowAt) {n : Nat} (h : ps.length ≤ n) : catM ps n = ps.flatMap (·.l) := by rw [catM, List.take_of_length_le h]
set_option maxRecDepth 100000 in
set_option maxHeartbeats 1000000 in
theorem mac_code {S : Nat → Prop} {w0 w : World} {L : List Ent} {A B : Option Addr} {n c m d : Nat} {key : List UInt8} {ps : List RowAt} (h : St S w0 w L) [ka : HasSl L A n c 1 (u8s key)] [kp : HasRows L B m d ps] (hn : n ≤ 1000000) (hm : m ≤ 100) (hrow : ∀ p ∈ ps, p.l.length ≤ 100000) :
    Calls Try.prog 45 #[.slice A n c, .slice B m d] w fun e w' => e = .returned (.agg (u8s (macM key (ps.flatMap (·.l)))).toArray) ∧ St S w0 w' L := by
  have hmp := (h.rowsAt B m d).1.n_rows
  have hcl := catM_le ps hrow
  have hx1 : (xorB 54 (padM key)).length = 64 := by rw [xorB_length, padM_length]
  have hx2 : (xorB 92 (padM key)).length = 64 := by rw [xorB_length, padM_length]
  have hmac : macM key (ps.flatMap (·.l)) = sumM (xorB 92 (padM key) ++ innerM key (ps.flatMap (·.l))) := rfl
  have hinn : innerM key (ps.flatMap (·.l)) = sumM (xorB 54 (padM key) ++ ps.flatMap (·.l)) := rfl
  have hil := innerM_length key (ps.flatMap (·.l))
  have hca := catM_all ps (n := m) (by omega)
  generalize macM key (ps.flatMap (·.l)) = M at *
  generalize innerM key (ps.flatMap (·.l)) = I at *
  generalize ps.flatMap (·.l) = X at *
  have Hrow := Lib.hid hrow
  have Hcl := Lib.hid hcl
  have Hx1 := Lib.hid hx1
  have Hx2 := Lib.hid hx2
  have Hmac := Lib.hid hmac
  have Hinn := Lib.hid hinn
  have Hil := Lib.hid hil
  have Hca := Lib.hid hca
  have Hmp := Lib.hid hmp
  clear hrow hcl hx1 hx2 hmac hinn hil hca hmp
  have t1 := True.intro
  have t2 := True.intro
  go_enter Try.func45, Try.ntmps45
  go_wp2_with (first
    | (refine wl_runs rfl (ex_alloc h 49 rfl) ?_; clear h; rintro _ w ⟨gr, rfl, h⟩)
    | (clear t1; go_at_call 68; refine (begin_code h).mono ?_; clear h; rintro e w ⟨gi, rfl, h⟩)
    | (go_at_call 68; refine (begin_code h).mono ?_; clear h; rintro e w ⟨go, rfl, h⟩)
    | (clear t2; go_at_call 70; refine (pad_code h hn 54).mono ?_; clear h; rintro e w ⟨gp, rfl, h⟩)
    | (go_at_call 69; refine (more_code h (by simp)).mono ?_; clear h; rintro e w ⟨⟨v, rfl⟩, A1, n1, c1, h⟩; rw [List.nil_append] at h))
  go_loopw [18] (fun x wr => ∃ (j : Nat) (A1 : Option Addr) (n1 c1 : Nat), x = .int .i64 (j : Int) ∧ j ≤ m ∧ St S w0 wr (eRun gi A1 n1 c1 (xorB 54 (padM key) ++ catM ps j) :: eRun go none 0 0 [] :: eBlk gr 49 (u8s (zeros 32)) :: L)) (fun x _ => m - (intOf x).toNat)
  case atStart => exact ⟨0, A1, n1, c1, rfl, by omega, by simpa [catM] using h.to⟩
  case round =>
    clear h
    obtain ⟨j, A1, n1, c1, rfl, hj, h⟩ := hrel
    by_cases hlt : j < m
    · have hjp : j < ps.length := by have := Hmp.out; omega
      have hcs := catM_succ ps hjp
      obtain ⟨b, off, rfl, hcel⟩ := (h.rowsAt B m d).1.elem (f := rowc) rowc_length hjp (by omega)
      have hc1 : wr.cell? ⟨b, off + j, none⟩ = some (.slice (ps[j]).A (ps[j]).n (ps[j]).c) := by
        have := hcel 0 _ rfl
        rwa [Nat.mul_one, Nat.add_zero] at this
      have hb : HasSl L (ps[j]).A (ps[j]).n (ps[j]).c 1 (u8s (ps[j]).l) := kp.one (List.getElem_mem hjp)
      have hbl := Hrow.out _ (List.getElem_mem hjp)
      generalize ps[j] = p at *
      obtain ⟨Bp, mp, dp, bl⟩ := p
      dsimp only at hb hc1 hcs hbl
      have hmp := (h.sl Bp mp dp).n_eq
      have hlen : (xorB 54 (padM key) ++ catM ps j).length + mp ≤ 100000000 := by
        have h1 := Hcl.out j
        rw [List.length_append, Hx1.out]
        omega
      have Hlen := Lib.hid hlen
      have Hcs := Lib.hid hcs
      have f1 : (j : Int) < (m : Int) := by omega
      clear hmp hcs hcel hlen hbl
      go_wp2_with (first
        | (refine wl_reads rfl (ex_load1_at _ _ rfl b (off + j) rfl _ hc1) ?_)
        | (go_at_call 69; refine (more_code h Hlen.out).mono ?_; clear h; rintro e w ⟨⟨v, rfl⟩, A1, n1, c1, h⟩))
      refine ⟨⟨j + 1, A1, n1, c1, by go_num, by omega, ?_⟩, by simp only [intOf]; omega⟩
      rw [Hcs.out, ← List.append_assoc]
      exact h
    · have hjm : j = m := by omega
      have f1 : ¬ (j : Int) < (m : Int) := by omega
      rw [hjm, Hca.out] at h
      have hlen : (xorB 54 (padM key) ++ X).length ≤ 100000000 := by
        have h1 := Hcl.out m
        rw [Hca.out] at h1
        rw [List.length_append, Hx1.out]
        omega
      have Hlen := Lib.hid hlen
      have hr : Row (u8s I) 32 := Row.mk' (by rw [u8s_length, Hil.out]) (u8s_one _) (by omega)
      clear hlen hjm
      have t3 := True.intro
      go_wp2_with (first
        | (clear t3; go_at_call 71; refine (rsum_code h Hlen.out).mono ?_; clear h; rintro e w ⟨rfl, h⟩; rw [← Hinn.out])
        | (refine wl_runs rfl (ex_alloc h 49 rfl) ?_; clear h; rintro _ w ⟨gs, rfl, h⟩)
        | (go_at_call 70; refine (pad_code h hn 92).mono ?_; clear h; rintro e w ⟨gq, rfl, h⟩)
        | (go_at_call_of 69 gq; refine (more_code h (by simp)).mono ?_; clear h; rintro e w ⟨⟨v, rfl⟩, A2, n2, c2, h⟩; rw [List.nil_append] at h)
        | (go_at_call 69; refine (more_code h (by rw [Hx2.out]; omega)).mono ?_; clear h; rintro e w ⟨⟨v, rfl⟩, A3, n3, c3, h⟩)
        | (go_at_call 71; refine (rsum_code h (by rw [List.length_append, Hx2.out, Hil.out]; omega)).mono ?_; clear h; rintro e w ⟨rfl, h⟩)
        | (refine wl_reads rfl (ex_loadv h _ _ rfl _ _ rfl) ?_) | (refine wl_runs rfl (ex_store1i h _ _ _ rfl _ _ rfl _ _ rfl) ?_; clear h; rintro _ w ⟨rfl, h⟩; try dsimp only [Act.put]) | (refine wl_runs rfl (ex_store1s h _ _ _ rfl _ _ rfl _ _ _ rfl) ?_; clear h; rintro _ w ⟨rfl, h⟩; try dsimp only [Act.put]) | (refine wl_runs rfl (ex_store1b h _ _ _ rfl _ _ rfl _ rfl) ?_; clear h; rintro _ w ⟨rfl, h⟩; try dsimp only [Act.put]) | (refine wl_runs rfl (ex_store1t h _ _ _ rfl _ _ rfl _ rfl) ?_; clear h; rintro _ w ⟨rfl, h⟩; try dsimp only [Act.put]) | (refine wl_runs rfl (ex_store1p h _ _ _ rfl _ _ rfl _ rfl) ?_; clear h; rintro _ w ⟨rfl, h⟩; try dsimp only [Act.put]) | (refine wl_runs rfl (ex_store1m h _ _ _ rfl _ _ rfl _ rfl) ?_; clear h; rintro _ w ⟨rfl, h⟩; try dsimp only [Act.put]) | (refine wl_runs rfl (ex_store h _ _ _ rfl _ _ rfl _ rfl) ?_; clear h; rintro _ w ⟨rfl, h⟩; try dsimp only [Act.put]) | (refine wl_runs rfl (ex_alloc h _ rfl) ?_; clear h; rintro _ w ⟨g, rfl, h⟩) | (refine wl_runs rfl (ex_box h _ _ rfl _ rfl) ?_; clear h; rintro _ w ⟨g, rfl, h⟩) | (refine wl_runs rfl (ex_box1i h _ _ rfl _ _ rfl) ?_; clear h; rintro _ w ⟨g, rfl, h⟩) | (refine wl_runs rfl (ex_box1s h _ _ rfl _ _ _ rfl) ?_; clear h; rintro _ w ⟨g, rfl, h⟩) | (refine wl_runs rfl (ex_box1b h _ _ rfl _ rfl) ?_; clear h; rintro _ w ⟨g, rfl, h⟩) | (refine wl_runs rfl (ex_box1t h _ _ rfl _ rfl) ?_; clear h; rintro _ w ⟨g, rfl, h⟩) | (refine wl_runs rfl (ex_box1p h _ _ rfl _ rfl) ?_; clear h; rintro _ w ⟨g, rfl, h⟩) | (refine wl_runs rfl (ex_box1m h _ _ rfl _ rfl) ?_; clear h; rintro _ w ⟨g, rfl, h⟩) | (refine wl_runs rfl (ex_slice1 h _ _ rfl _ rfl) ?_; clear h; rintro _ w ⟨g, rfl, h⟩) | (refine wl_runs rfl (ex_slice1i h _ _ rfl _ _ rfl) ?_; clear h; rintro _ w ⟨g, rfl, h⟩) | (refine wl_runs rfl (ex_slice1s h _ _ rfl _ _ _ rfl) ?_; clear h; rintro _ w ⟨g, rfl, h⟩) | (refine wl_runs rfl (ex_slice1b h _ _ rfl _ rfl) ?_; clear h; rintro _ w ⟨g, rfl, h⟩) | (refine wl_runs rfl (ex_slice1t h _ _ rfl _ rfl) ?_; clear h; rintro _ w ⟨g, rfl, h⟩) | (refine wl_runs rfl (ex_slice1p h _ _ rfl _ rfl) ?_; clear h; rintro _ w ⟨g, rfl, h⟩) | (refine wl_runs rfl (ex_slice1m h _ _ rfl _ rfl) ?_; clear h; rintro _ w ⟨g, rfl, h⟩) | (refine wl_reads rfl (ex_lit0 _ rfl) ?_))
      refine bodyPost_ret (res_cell1 rfl rfl (h.loadVar 49 gr 0)) rfl ⟨?_, h.to⟩
      rw [Hmac.out]
end Go.Proofs.Ytcmgjoamfjijhaa
