/- The reference's tag, and texts laid one behind the other. -/
import Derived.Test.YtcmgjoamfjijhaaCMacSum
namespace Go.Proofs.Ytcmgjoamfjijhaa
open Go.RowKit
set_option linter.unusedVariables false
set_option linter.unusedSimpArgs false

set_option maxRecDepth 100000 in
set_option maxHeartbeats 1000000 in
theorem cat_ref {S : Nat → Prop} {w0 w : World} {L : List Ent} {B : Option Addr} {m d : Nat} {ps : List RowAt} (h : St S w0 w L) [kp : HasRows L B m d ps] (hm : m ≤ 100) (hrow : ∀ p ∈ ps, p.l.length ≤ 100000) :
    Calls Try.prog 67 #[.slice B m d] w fun e w' => ∃ A n c, e = .returned (.slice A n c) ∧ St S w0 w' (eOwn 5 1 A n c (u8s (ps.flatMap (·.l))) :: L) := by
  have hmp := (h.rowsAt B m d).1.n_rows
  have hcl := catM_le ps hrow
  have hca := catM_all ps (n := m) (by omega)
  have Hrow := Lib.hid hrow
  have Hcl := Lib.hid hcl
  have Hca := Lib.hid hca
  have Hmp := Lib.hid hmp
  clear hrow hcl hca hmp
  replace h := h.nilRow 5 1
  go_enter Try.func67, Try.ntmps67
  go_wp2
  go_loopw [3, 8] (fun v x wr => ∃ (j : Nat) (A : Option Addr) (n c : Nat), v = .slice A n c ∧ x = .int .i64 (j : Int) ∧ j ≤ m ∧ St S w0 wr (eOwn 5 1 A n c (u8s (catM ps j)) :: L)) (fun _ x _ => m - (intOf x).toNat)
  case atStart => exact ⟨0, none, 0, 0, rfl, rfl, by omega, h⟩
  case round =>
    clear h
    obtain ⟨j, A, n, c, rfl, rfl, hj, h⟩ := hrel
    have hn := (h.sl A n c).n_eq
    have hcj := Hcl.out j
    have hnb : n ≤ 100000 * j := by omega
    clear hn hcj
    by_cases hlt : j < m
    · have hjp : j < ps.length := by have := Hmp.out; omega
      have hcs := catM_succ ps hjp
      obtain ⟨b, off, rfl, hcel⟩ := (h.rowsAt B m d).1.elem (f := rowc) rowc_length hjp (by omega)
      have hc1 : wr.cell? ⟨b, off + j, none⟩ = some (.slice (ps[j]).A (ps[j]).n (ps[j]).c) := by
        have := hcel 0 _ rfl
        rwa [Nat.mul_one, Nat.add_zero] at this
      have hb : HasSl L (ps[j]).A (ps[j]).n (ps[j]).c 1 (u8s (ps[j]).l) := kp.one (List.getElem_mem hjp)
      have hbl := Hrow.out _ (List.getElem_mem hjp)
      generalize ps[j] = p at *
      obtain ⟨Bp, mp, dp, bl⟩ := p
      dsimp only at hb hc1 hcs hbl
      have hmp := (h.sl Bp mp dp).n_eq
      have hmb : mp ≤ 100000 := by omega
      have Hcs := Lib.hid hcs
      have f1 : (j : Int) < (m : Int) := by omega
      clear hmp hcs hcel hbl
      go_wp2_with (first
        | (refine wl_reads rfl (ex_load1_at _ _ rfl b (off + j) rfl _ hc1) ?_)
        | (refine wl_runs rfl (ex_append h _ _ _ rfl A rfl Bp mp dp rfl (h.sl Bp mp dp) (u8s_one _) (by simp [maxLen]; omega) (by omega)) ?_; clear h; rintro _ w ⟨A2, c2, rfl, h⟩))
      refine ⟨⟨j + 1, A2, n + mp, c2, rfl, by go_num, by omega, ?_⟩, by simp only [intOf]; omega⟩
      rw [Hcs.out, ← u8s_append]
      exact h
    · have hjm : j = m := by omega
      have f1 : ¬ (j : Int) < (m : Int) := by omega
      rw [hjm, Hca.out] at h
      clear hjm
      go_wp2
      go_ret
      exact ⟨A, n, c, rfl, h⟩

set_option maxRecDepth 100000 in
set_option maxHeartbeats 1000000 in
theorem mac_ref {S : Nat → Prop} {w0 w : World} {L : List Ent} {A B : Option Addr} {n c m d : Nat} {key text : List UInt8} (h : St S w0 w L) [ka : HasSl L A n c 1 (u8s key)] [kb : HasSl L B m d 1 (u8s text)] (hn : n ≤ 1000000) (hm : m ≤ 1000000) :
    Calls Try.prog 63 #[.slice A n c, .slice B m d] w fun e w' => e = .returned (.agg (u8s (macM key text)).toArray) ∧ St S w0 w' L := by
  have hk := (h.sl A n c).n_eq
  have Hk := Lib.hid hk
  clear hk
  have t1 := True.intro
  by_cases hlt : n ≤ 64
  all_goals
    go_enter Try.func63, Try.ntmps63
    go_wp2_with (first
      | (clear t1; refine wl_runs rfl (ex_alloc h 49 rfl) ?_; clear h; rintro _ w ⟨gr, rfl, h⟩)
      | (refine wl_runs rfl (ex_append_nil h _ _ _ rfl rfl A n c rfl (h.sl A n c) (u8s_one _) (by simp [maxLen]; omega) (by omega)) ?_; clear h; rintro _ w ⟨A1, c1, rfl, h⟩)
      | (go_at_call 86; refine (sum_ref (h.sl A1 n c1) (by omega)).mono ?_; rintro e w ⟨rfl, hs⟩; replace h := h.quiet hs; clear hs)
      | (refine wl_runs rfl (ex_alloc h 49 rfl) ?_; clear h; rintro _ w ⟨gs, rfl, h⟩)
      | (refine wl_runs rfl (ex_append_nil h _ _ _ rfl rfl (some ⟨gs, 0, none⟩) 32 32 rfl (h.sl (some ⟨gs, 0, none⟩) 32 32) (u8s_one _) (by decide) (by decide)) ?_; clear h; rintro _ w ⟨A1, c1, rfl, h⟩)
      | (refine wl_reads rfl (ex_loadv h _ _ rfl _ _ rfl) ?_) | (refine wl_runs rfl (ex_store1i h _ _ _ rfl _ _ rfl _ _ rfl) ?_; clear h; rintro _ w ⟨rfl, h⟩; try dsimp only [Act.put]) | (refine wl_runs rfl (ex_store1s h _ _ _ rfl _ _ rfl _ _ _ rfl) ?_; clear h; rintro _ w ⟨rfl, h⟩; try dsimp only [Act.put]) | (refine wl_runs rfl (ex_store1b h _ _ _ rfl _ _ rfl _ rfl) ?_; clear h; rintro _ w ⟨rfl, h⟩; try dsimp only [Act.put]) | (refine wl_runs rfl (ex_store1t h _ _ _ rfl _ _ rfl _ rfl) ?_; clear h; rintro _ w ⟨rfl, h⟩; try dsimp only [Act.put]) | (refine wl_runs rfl (ex_store1p h _ _ _ rfl _ _ rfl _ rfl) ?_; clear h; rintro _ w ⟨rfl, h⟩; try dsimp only [Act.put]) | (refine wl_runs rfl (ex_store1m h _ _ _ rfl _ _ rfl _ rfl) ?_; clear h; rintro _ w ⟨rfl, h⟩; try dsimp only [Act.put]) | (refine wl_runs rfl (ex_store h _ _ _ rfl _ _ rfl _ rfl) ?_; clear h; rintro _ w ⟨rfl, h⟩; try dsimp only [Act.put]) | (refine wl_runs rfl (ex_alloc h _ rfl) ?_; clear h; rintro _ w ⟨g, rfl, h⟩) | (refine wl_runs rfl (ex_box h _ _ rfl _ rfl) ?_; clear h; rintro _ w ⟨g, rfl, h⟩) | (refine wl_runs rfl (ex_box1i h _ _ rfl _ _ rfl) ?_; clear h; rintro _ w ⟨g, rfl, h⟩) | (refine wl_runs rfl (ex_box1s h _ _ rfl _ _ _ rfl) ?_; clear h; rintro _ w ⟨g, rfl, h⟩) | (refine wl_runs rfl (ex_box1b h _ _ rfl _ rfl) ?_; clear h; rintro _ w ⟨g, rfl, h⟩) | (refine wl_runs rfl (ex_box1t h _ _ rfl _ rfl) ?_; clear h; rintro _ w ⟨g, rfl, h⟩) | (refine wl_runs rfl (ex_box1p h _ _ rfl _ rfl) ?_; clear h; rintro _ w ⟨g, rfl, h⟩) | (refine wl_runs rfl (ex_box1m h _ _ rfl _ rfl) ?_; clear h; rintro _ w ⟨g, rfl, h⟩) | (refine wl_runs rfl (ex_slice1 h _ _ rfl _ rfl) ?_; clear h; rintro _ w ⟨g, rfl, h⟩) | (refine wl_runs rfl (ex_slice1i h _ _ rfl _ _ rfl) ?_; clear h; rintro _ w ⟨g, rfl, h⟩) | (refine wl_runs rfl (ex_slice1s h _ _ rfl _ _ _ rfl) ?_; clear h; rintro _ w ⟨g, rfl, h⟩) | (refine wl_runs rfl (ex_slice1b h _ _ rfl _ rfl) ?_; clear h; rintro _ w ⟨g, rfl, h⟩) | (refine wl_runs rfl (ex_slice1t h _ _ rfl _ rfl) ?_; clear h; rintro _ w ⟨g, rfl, h⟩) | (refine wl_runs rfl (ex_slice1p h _ _ rfl _ rfl) ?_; clear h; rintro _ w ⟨g, rfl, h⟩) | (refine wl_runs rfl (ex_slice1m h _ _ rfl _ rfl) ?_; clear h; rintro _ w ⟨g, rfl, h⟩) | (refine wl_reads rfl (ex_lit0 _ rfl) ?_))
  all_goals
    first
      | (have hkk : keyM key = key := (by rw [keyM, if_pos (by rw [← Hk.out]; exact hlt)])
         replace h : St S w0 w (eOwn 5 1 A1 n c1 (u8s (keyM key)) :: eBlk gr 49 (u8s (zeros 32)) :: L) := (by rw [hkk]; exact h.to))
      | (have hkk : keyM key = sumM key := (by rw [keyM, if_neg (by rw [← Hk.out]; exact hlt)])
         replace h : St S w0 w (eOwn 5 1 A1 32 c1 (u8s (keyM key)) :: eBlk gr 49 (u8s (zeros 32)) :: L) := (by rw [hkk]; exact h.to))
    clear hkk
    have hkl := (h.row A1).sl.n_eq
    have hk64 := keyM_le key
    have hpad : padM key = keyM key ++ zeros (64 - (keyM key).length) := rfl
    have hpl := padM_length key
    generalize keyM key = K at *
    have Hkl := Lib.hid hkl
    have Hk64 := Lib.hid hk64
    have Hpad := Lib.hid hpad
    have Hpl := Lib.hid hpl
    clear hkl hk64 hpad hpl Hk
    go_loopw [5] (fun v wr => ∃ (z k : Nat) (A' : Option Addr) (c' : Nat), v = .slice A' k c' ∧ k ≤ 64 ∧ k = K.length + z ∧ St S w0 wr (eOwn 5 1 A' k c' (u8s (K ++ zeros z)) :: eBlk gr 49 (u8s (zeros 32)) :: L)) (fun v _ => match v with | .slice _ m _ => 64 - m | _ => 0)
    case atStart => exact ⟨0, _, A1, c1, rfl, by first | (have := Hkl.out; have := Hk64.out; omega) | omega, by have := Hkl.out; omega, by simpa [zeros] using h⟩
    case round =>
      clear h
      obtain ⟨z, k, A', c', rfl, hk, hkz, h⟩ := hrel
      have Hkz := Lib.hid hkz
      clear hkz
      by_cases hk6 : k < 64
      · have f1 : (k : Int) < 64 := by omega
        go_wp2_with (first
          | (refine wl_runs rfl (ex_append h _ _ _ rfl A' rfl _ 1 1 rfl (h.slBox _) (by simp [Value.oneCell']) (by simp [maxLen]; omega) (by omega)) ?_; clear h; rintro _ w ⟨A2, c2, rfl, h⟩)
          | (refine wl_reads rfl (ex_loadv h _ _ rfl _ _ rfl) ?_) | (refine wl_runs rfl (ex_store1i h _ _ _ rfl _ _ rfl _ _ rfl) ?_; clear h; rintro _ w ⟨rfl, h⟩; try dsimp only [Act.put]) | (refine wl_runs rfl (ex_store1s h _ _ _ rfl _ _ rfl _ _ _ rfl) ?_; clear h; rintro _ w ⟨rfl, h⟩; try dsimp only [Act.put]) | (refine wl_runs rfl (ex_store1b h _ _ _ rfl _ _ rfl _ rfl) ?_; clear h; rintro _ w ⟨rfl, h⟩; try dsimp only [Act.put]) | (refine wl_runs rfl (ex_store1t h _ _ _ rfl _ _ rfl _ rfl) ?_; clear h; rintro _ w ⟨rfl, h⟩; try dsimp only [Act.put]) | (refine wl_runs rfl (ex_store1p h _ _ _ rfl _ _ rfl _ rfl) ?_; clear h; rintro _ w ⟨rfl, h⟩; try dsimp only [Act.put]) | (refine wl_runs rfl (ex_store1m h _ _ _ rfl _ _ rfl _ rfl) ?_; clear h; rintro _ w ⟨rfl, h⟩; try dsimp only [Act.put]) | (refine wl_runs rfl (ex_store h _ _ _ rfl _ _ rfl _ rfl) ?_; clear h; rintro _ w ⟨rfl, h⟩; try dsimp only [Act.put]) | (refine wl_runs rfl (ex_alloc h _ rfl) ?_; clear h; rintro _ w ⟨g, rfl, h⟩) | (refine wl_runs rfl (ex_box h _ _ rfl _ rfl) ?_; clear h; rintro _ w ⟨g, rfl, h⟩) | (refine wl_runs rfl (ex_box1i h _ _ rfl _ _ rfl) ?_; clear h; rintro _ w ⟨g, rfl, h⟩) | (refine wl_runs rfl (ex_box1s h _ _ rfl _ _ _ rfl) ?_; clear h; rintro _ w ⟨g, rfl, h⟩) | (refine wl_runs rfl (ex_box1b h _ _ rfl _ rfl) ?_; clear h; rintro _ w ⟨g, rfl, h⟩) | (refine wl_runs rfl (ex_box1t h _ _ rfl _ rfl) ?_; clear h; rintro _ w ⟨g, rfl, h⟩) | (refine wl_runs rfl (ex_box1p h _ _ rfl _ rfl) ?_; clear h; rintro _ w ⟨g, rfl, h⟩) | (refine wl_runs rfl (ex_box1m h _ _ rfl _ rfl) ?_; clear h; rintro _ w ⟨g, rfl, h⟩) | (refine wl_runs rfl (ex_slice1 h _ _ rfl _ rfl) ?_; clear h; rintro _ w ⟨g, rfl, h⟩) | (refine wl_runs rfl (ex_slice1i h _ _ rfl _ _ rfl) ?_; clear h; rintro _ w ⟨g, rfl, h⟩) | (refine wl_runs rfl (ex_slice1s h _ _ rfl _ _ _ rfl) ?_; clear h; rintro _ w ⟨g, rfl, h⟩) | (refine wl_runs rfl (ex_slice1b h _ _ rfl _ rfl) ?_; clear h; rintro _ w ⟨g, rfl, h⟩) | (refine wl_runs rfl (ex_slice1t h _ _ rfl _ rfl) ?_; clear h; rintro _ w ⟨g, rfl, h⟩) | (refine wl_runs rfl (ex_slice1p h _ _ rfl _ rfl) ?_; clear h; rintro _ w ⟨g, rfl, h⟩) | (refine wl_runs rfl (ex_slice1m h _ _ rfl _ rfl) ?_; clear h; rintro _ w ⟨g, rfl, h⟩) | (refine wl_reads rfl (ex_lit0 _ rfl) ?_))
        refine ⟨⟨z + 1, k + 1, A2, c2, rfl, by omega, by have := Hkz.out; omega, ?_⟩, ?_⟩
        · rw [show [Value.int .u8 0] = u8s [0] from rfl, u8s_append, List.append_assoc, ← zeros_snoc] at h
          exact h.to
        · show 64 - (k + 1) < 64 - k
          omega
      · have hkk : k = 64 := by omega
        subst hkk
        have hP : K ++ zeros z = padM key := by rw [Hpad.out, show 64 - K.length = z by have := Hkz.out; omega]
        rw [hP] at h
        have hmac : macM key text = sumM (xorB 92 (padM key) ++ sumM (xorB 54 (padM key) ++ text)) := rfl
        clear hP Hkz Hpad
        generalize padM key = P at *
        have Hmac := Lib.hid hmac
        clear hmac
        go_wp2_with (first | (refine wl_reads rfl (ex_loadv h _ _ rfl _ _ rfl) ?_) | (refine wl_runs rfl (ex_store1i h _ _ _ rfl _ _ rfl _ _ rfl) ?_; clear h; rintro _ w ⟨rfl, h⟩; try dsimp only [Act.put]) | (refine wl_runs rfl (ex_store1s h _ _ _ rfl _ _ rfl _ _ _ rfl) ?_; clear h; rintro _ w ⟨rfl, h⟩; try dsimp only [Act.put]) | (refine wl_runs rfl (ex_store1b h _ _ _ rfl _ _ rfl _ rfl) ?_; clear h; rintro _ w ⟨rfl, h⟩; try dsimp only [Act.put]) | (refine wl_runs rfl (ex_store1t h _ _ _ rfl _ _ rfl _ rfl) ?_; clear h; rintro _ w ⟨rfl, h⟩; try dsimp only [Act.put]) | (refine wl_runs rfl (ex_store1p h _ _ _ rfl _ _ rfl _ rfl) ?_; clear h; rintro _ w ⟨rfl, h⟩; try dsimp only [Act.put]) | (refine wl_runs rfl (ex_store1m h _ _ _ rfl _ _ rfl _ rfl) ?_; clear h; rintro _ w ⟨rfl, h⟩; try dsimp only [Act.put]) | (refine wl_runs rfl (ex_store h _ _ _ rfl _ _ rfl _ rfl) ?_; clear h; rintro _ w ⟨rfl, h⟩; try dsimp only [Act.put]) | (refine wl_runs rfl (ex_alloc h _ rfl) ?_; clear h; rintro _ w ⟨g, rfl, h⟩) | (refine wl_runs rfl (ex_box h _ _ rfl _ rfl) ?_; clear h; rintro _ w ⟨g, rfl, h⟩) | (refine wl_runs rfl (ex_box1i h _ _ rfl _ _ rfl) ?_; clear h; rintro _ w ⟨g, rfl, h⟩) | (refine wl_runs rfl (ex_box1s h _ _ rfl _ _ _ rfl) ?_; clear h; rintro _ w ⟨g, rfl, h⟩) | (refine wl_runs rfl (ex_box1b h _ _ rfl _ rfl) ?_; clear h; rintro _ w ⟨g, rfl, h⟩) | (refine wl_runs rfl (ex_box1t h _ _ rfl _ rfl) ?_; clear h; rintro _ w ⟨g, rfl, h⟩) | (refine wl_runs rfl (ex_box1p h _ _ rfl _ rfl) ?_; clear h; rintro _ w ⟨g, rfl, h⟩) | (refine wl_runs rfl (ex_box1m h _ _ rfl _ rfl) ?_; clear h; rintro _ w ⟨g, rfl, h⟩) | (refine wl_runs rfl (ex_slice1 h _ _ rfl _ rfl) ?_; clear h; rintro _ w ⟨g, rfl, h⟩) | (refine wl_runs rfl (ex_slice1i h _ _ rfl _ _ rfl) ?_; clear h; rintro _ w ⟨g, rfl, h⟩) | (refine wl_runs rfl (ex_slice1s h _ _ rfl _ _ _ rfl) ?_; clear h; rintro _ w ⟨g, rfl, h⟩) | (refine wl_runs rfl (ex_slice1b h _ _ rfl _ rfl) ?_; clear h; rintro _ w ⟨g, rfl, h⟩) | (refine wl_runs rfl (ex_slice1t h _ _ rfl _ rfl) ?_; clear h; rintro _ w ⟨g, rfl, h⟩) | (refine wl_runs rfl (ex_slice1p h _ _ rfl _ rfl) ?_; clear h; rintro _ w ⟨g, rfl, h⟩) | (refine wl_runs rfl (ex_slice1m h _ _ rfl _ rfl) ?_; clear h; rintro _ w ⟨g, rfl, h⟩) | (refine wl_reads rfl (ex_lit0 _ rfl) ?_))
        have h := (h.nilRow 5 1).nilRow 5 1
        go_loopw [7, 8, 29] (fun v7 v8 x wr => ∃ (i : Nat) (A7 : Option Addr) (c7 : Nat) (A8 : Option Addr) (c8 : Nat), v7 = .slice A7 i c7 ∧ v8 = .slice A8 i c8 ∧ x = .int .i64 (i : Int) ∧ i ≤ 64 ∧
          St S w0 wr (eOwn 5 1 A7 i c7 (u8s (xorB 54 (P.take i))) :: eOwn 5 1 A8 i c8 (u8s (xorB 92 (P.take i))) :: eOwn 5 1 A' 64 c' (u8s P) :: eBlk gr 49 (u8s (zeros 32)) :: L)) (fun _ _ x _ => 64 - (intOf x).toNat)
        case atStart => exact ⟨0, none, 0, none, 0, rfl, rfl, rfl, by omega, h⟩
        case round =>
          clear h
          obtain ⟨i, A7, c7, A8, c8, rfl, rfl, rfl, hi, h⟩ := hrel
          by_cases hii : i < 64
          · have hil : i < P.length := by rw [Hpl.out]; exact hii
            obtain ⟨b, off, rfl, _⟩ := (h.sl A' 64 c').pos (by omega)
            have hc : wr.cell? ⟨b, off + i, none⟩ = some (.int .u8 (P[i].toNat : Int)) := (h.sl (some ⟨b, off, none⟩) 64 c').cellAt (by rw [u8s, List.getElem?_map, List.getElem?_eq_getElem hil]; rfl)
            have hs1 : xorB 54 (P.take (i + 1)) = xorB 54 (P.take i) ++ [xor8 P[i] 54] := by rw [List.take_succ_eq_append_getElem hil, xorB, List.map_append]; rfl
            have hs2 : xorB 92 (P.take (i + 1)) = xorB 92 (P.take i) ++ [xor8 P[i] 92] := by rw [List.take_succ_eq_append_getElem hil, xorB, List.map_append]; rfl
            generalize P[i] = x at *
            have hx1 : bits .xor .u8 (x.toNat : Int) 54 = ((xor8 x 54).toNat : Int) := b_xor x 54
            have hx2 : bits .xor .u8 (x.toNat : Int) 92 = ((xor8 x 92).toNat : Int) := b_xor x 92
            have Hs1 := Lib.hid hs1
            have Hs2 := Lib.hid hs2
            have f1 : (i : Int) < 64 := by omega
            have t3 := True.intro
            clear hs1 hs2
            go_wp2_with (first
              | (refine wl_reads rfl (ex_load1_at _ _ rfl b (off + i) rfl _ hc) ?_)
              | (clear t3; refine wl_runs rfl (ex_append h _ _ _ rfl A7 rfl _ 1 1 rfl (h.slBox _) (by simp [Value.oneCell']) (by simp [maxLen]; omega) (by omega)) ?_; clear h; rintro _ w ⟨A9, c9, rfl, h⟩)
              | (refine wl_runs rfl (ex_append h _ _ _ rfl A8 rfl _ 1 1 rfl (h.slBox _) (by simp [Value.oneCell']) (by simp [maxLen]; omega) (by omega)) ?_; clear h; rintro _ w ⟨A10, c10, rfl, h⟩)
              | (refine wl_reads rfl (ex_loadv h _ _ rfl _ _ rfl) ?_) | (refine wl_runs rfl (ex_store1i h _ _ _ rfl _ _ rfl _ _ rfl) ?_; clear h; rintro _ w ⟨rfl, h⟩; try dsimp only [Act.put]) | (refine wl_runs rfl (ex_store1s h _ _ _ rfl _ _ rfl _ _ _ rfl) ?_; clear h; rintro _ w ⟨rfl, h⟩; try dsimp only [Act.put]) | (refine wl_runs rfl (ex_store1b h _ _ _ rfl _ _ rfl _ rfl) ?_; clear h; rintro _ w ⟨rfl, h⟩; try dsimp only [Act.put]) | (refine wl_runs rfl (ex_store1t h _ _ _ rfl _ _ rfl _ rfl) ?_; clear h; rintro _ w ⟨rfl, h⟩; try dsimp only [Act.put]) | (refine wl_runs rfl (ex_store1p h _ _ _ rfl _ _ rfl _ rfl) ?_; clear h; rintro _ w ⟨rfl, h⟩; try dsimp only [Act.put]) | (refine wl_runs rfl (ex_store1m h _ _ _ rfl _ _ rfl _ rfl) ?_; clear h; rintro _ w ⟨rfl, h⟩; try dsimp only [Act.put]) | (refine wl_runs rfl (ex_store h _ _ _ rfl _ _ rfl _ rfl) ?_; clear h; rintro _ w ⟨rfl, h⟩; try dsimp only [Act.put]) | (refine wl_runs rfl (ex_alloc h _ rfl) ?_; clear h; rintro _ w ⟨g, rfl, h⟩) | (refine wl_runs rfl (ex_box h _ _ rfl _ rfl) ?_; clear h; rintro _ w ⟨g, rfl, h⟩) | (refine wl_runs rfl (ex_box1i h _ _ rfl _ _ rfl) ?_; clear h; rintro _ w ⟨g, rfl, h⟩) | (refine wl_runs rfl (ex_box1s h _ _ rfl _ _ _ rfl) ?_; clear h; rintro _ w ⟨g, rfl, h⟩) | (refine wl_runs rfl (ex_box1b h _ _ rfl _ rfl) ?_; clear h; rintro _ w ⟨g, rfl, h⟩) | (refine wl_runs rfl (ex_box1t h _ _ rfl _ rfl) ?_; clear h; rintro _ w ⟨g, rfl, h⟩) | (refine wl_runs rfl (ex_box1p h _ _ rfl _ rfl) ?_; clear h; rintro _ w ⟨g, rfl, h⟩) | (refine wl_runs rfl (ex_box1m h _ _ rfl _ rfl) ?_; clear h; rintro _ w ⟨g, rfl, h⟩) | (refine wl_runs rfl (ex_slice1 h _ _ rfl _ rfl) ?_; clear h; rintro _ w ⟨g, rfl, h⟩) | (refine wl_runs rfl (ex_slice1i h _ _ rfl _ _ rfl) ?_; clear h; rintro _ w ⟨g, rfl, h⟩) | (refine wl_runs rfl (ex_slice1s h _ _ rfl _ _ _ rfl) ?_; clear h; rintro _ w ⟨g, rfl, h⟩) | (refine wl_runs rfl (ex_slice1b h _ _ rfl _ rfl) ?_; clear h; rintro _ w ⟨g, rfl, h⟩) | (refine wl_runs rfl (ex_slice1t h _ _ rfl _ rfl) ?_; clear h; rintro _ w ⟨g, rfl, h⟩) | (refine wl_runs rfl (ex_slice1p h _ _ rfl _ rfl) ?_; clear h; rintro _ w ⟨g, rfl, h⟩) | (refine wl_runs rfl (ex_slice1m h _ _ rfl _ rfl) ?_; clear h; rintro _ w ⟨g, rfl, h⟩) | (refine wl_reads rfl (ex_lit0 _ rfl) ?_))
            refine ⟨⟨i + 1, A9, c9, A10, c10, rfl, rfl, by go_num, by omega, ?_⟩, by simp only [intOf]; omega⟩
            rw [show [Value.int .u8 ((xor8 x 54).toNat : Int)] = u8s [xor8 x 54] from rfl, show [Value.int .u8 ((xor8 x 92).toNat : Int)] = u8s [xor8 x 92] from rfl, u8s_append, u8s_append, ← Hs1.out, ← Hs2.out] at h
            exact h.to
          · have hi64 : i = 64 := by omega
            subst hi64
            rw [List.take_of_length_le (by rw [Hpl.out]; exact Nat.le_refl _)] at h
            have f1 : ¬ (64 : Int) < 64 := by omega
            have hx1 : (xorB 54 P).length = 64 := by rw [xorB_length, Hpl.out]
            have t3 := True.intro
            have t4 := True.intro
            go_wp2_with (first
              | (clear t3; refine wl_runs rfl (ex_append h _ _ _ rfl A7 rfl B m d rfl (h.sl B m d) (u8s_one _) (by simp [maxLen]; omega) (by omega)) ?_; clear h; rintro _ w ⟨A9, c9, rfl, h⟩; rw [u8s_append] at h)
              | (clear t4; go_at_call 86; refine (sum_ref (h.sl A9 (64 + m) c9) (by omega)).mono ?_; rintro e w ⟨rfl, hs⟩; replace h := h.quiet hs; clear hs)
              | (refine wl_runs rfl (ex_alloc h 49 rfl) ?_; clear h; rintro _ w ⟨gq, rfl, h⟩)
              | (refine wl_runs rfl (ex_append h _ _ _ rfl A8 rfl (some ⟨gq, 0, none⟩) 32 32 rfl (h.sl (some ⟨gq, 0, none⟩) 32 32) (u8s_one _) (by decide) (by decide)) ?_; clear h; rintro _ w ⟨A10, c10, rfl, h⟩; rw [u8s_append] at h)
              | (go_at_call 86; refine (sum_ref (h.sl A10 96 c10) (by omega)).mono ?_; rintro e w ⟨rfl, hs⟩; replace h := h.quiet hs; clear hs)
              | (refine wl_reads rfl (ex_loadv h _ _ rfl _ _ rfl) ?_) | (refine wl_runs rfl (ex_store1i h _ _ _ rfl _ _ rfl _ _ rfl) ?_; clear h; rintro _ w ⟨rfl, h⟩; try dsimp only [Act.put]) | (refine wl_runs rfl (ex_store1s h _ _ _ rfl _ _ rfl _ _ _ rfl) ?_; clear h; rintro _ w ⟨rfl, h⟩; try dsimp only [Act.put]) | (refine wl_runs rfl (ex_store1b h _ _ _ rfl _ _ rfl _ rfl) ?_; clear h; rintro _ w ⟨rfl, h⟩; try dsimp only [Act.put]) | (refine wl_runs rfl (ex_store1t h _ _ _ rfl _ _ rfl _ rfl) ?_; clear h; rintro _ w ⟨rfl, h⟩; try dsimp only [Act.put]) | (refine wl_runs rfl (ex_store1p h _ _ _ rfl _ _ rfl _ rfl) ?_; clear h; rintro _ w ⟨rfl, h⟩; try dsimp only [Act.put]) | (refine wl_runs rfl (ex_store1m h _ _ _ rfl _ _ rfl _ rfl) ?_; clear h; rintro _ w ⟨rfl, h⟩; try dsimp only [Act.put]) | (refine wl_runs rfl (ex_store h _ _ _ rfl _ _ rfl _ rfl) ?_; clear h; rintro _ w ⟨rfl, h⟩; try dsimp only [Act.put]) | (refine wl_runs rfl (ex_alloc h _ rfl) ?_; clear h; rintro _ w ⟨g, rfl, h⟩) | (refine wl_runs rfl (ex_box h _ _ rfl _ rfl) ?_; clear h; rintro _ w ⟨g, rfl, h⟩) | (refine wl_runs rfl (ex_box1i h _ _ rfl _ _ rfl) ?_; clear h; rintro _ w ⟨g, rfl, h⟩) | (refine wl_runs rfl (ex_box1s h _ _ rfl _ _ _ rfl) ?_; clear h; rintro _ w ⟨g, rfl, h⟩) | (refine wl_runs rfl (ex_box1b h _ _ rfl _ rfl) ?_; clear h; rintro _ w ⟨g, rfl, h⟩) | (refine wl_runs rfl (ex_box1t h _ _ rfl _ rfl) ?_; clear h; rintro _ w ⟨g, rfl, h⟩) | (refine wl_runs rfl (ex_box1p h _ _ rfl _ rfl) ?_; clear h; rintro _ w ⟨g, rfl, h⟩) | (refine wl_runs rfl (ex_box1m h _ _ rfl _ rfl) ?_; clear h; rintro _ w ⟨g, rfl, h⟩) | (refine wl_runs rfl (ex_slice1 h _ _ rfl _ rfl) ?_; clear h; rintro _ w ⟨g, rfl, h⟩) | (refine wl_runs rfl (ex_slice1i h _ _ rfl _ _ rfl) ?_; clear h; rintro _ w ⟨g, rfl, h⟩) | (refine wl_runs rfl (ex_slice1s h _ _ rfl _ _ _ rfl) ?_; clear h; rintro _ w ⟨g, rfl, h⟩) | (refine wl_runs rfl (ex_slice1b h _ _ rfl _ rfl) ?_; clear h; rintro _ w ⟨g, rfl, h⟩) | (refine wl_runs rfl (ex_slice1t h _ _ rfl _ rfl) ?_; clear h; rintro _ w ⟨g, rfl, h⟩) | (refine wl_runs rfl (ex_slice1p h _ _ rfl _ rfl) ?_; clear h; rintro _ w ⟨g, rfl, h⟩) | (refine wl_runs rfl (ex_slice1m h _ _ rfl _ rfl) ?_; clear h; rintro _ w ⟨g, rfl, h⟩) | (refine wl_reads rfl (ex_lit0 _ rfl) ?_))
            refine bodyPost_ret (res_cell1 rfl rfl (h.loadVar 49 gr 0)) rfl ⟨?_, h.to⟩
            rw [Hmac.out]
end Go.Proofs.Ytcmgjoamfjijhaa
