/- The reference's blocks of a text. -/
import Derived.Test.YtcmgjoamfjijhaaCChunks
import Derived.Test.YtcmgjoamfjijhaaCB3
namespace Go.Proofs.Ytcmgjoamfjijhaa
open Go.RowKit

def blkc (x : B64) : List Value := u8s x.1
theorem blkc_length (x : B64) : (blkc x).length = 64 := by rw [blkc, u8s_length, x.2]
theorem blk_parts : (Try.prog.info? 120).map (fun i => (i.zero, i.size, i.bytes)) = some (some (arr (zeros 64)), 64, 64) := by kernel_rfl
theorem u8s_append_one (l : List UInt8) : u8s l ++ [.int .u8 128] = u8s (l ++ 128 :: zeros 0) := by simp [u8s, u8v, zeros]
theorem zeros_snoc (k : Nat) : zeros (k + 1) = zeros k ++ [0] := by simp [zeros, List.replicate_succ']

set_option maxRecDepth 100000 in
set_option maxHeartbeats 2000000 in
theorem blocks_ref {w : World} {l : List UInt8} {A : Option Addr} {n c : Nat} (hl : Sl w A n c 1 (u8s l)) (hm : n ≤ 10000000) :
    Calls Try.prog 108 #[.slice A n c] w fun e w' => ∃ B d, e = .returned (.slice B (blocksM l).length d) ∧ St (fun _ => False) w w' [eOwn 120 64 B (blocksM l).length d ((blocksM l).flatMap blkc)] := by
  obtain ⟨i0, hi0, hz0, hz1, hz2⟩ := info_parts byte_parts2
  obtain ⟨i1, hi1, hy0, hy1, hy2⟩ := info_parts blk_parts
  have hn := hl.n_eq
  have Hn := Lib.hid hn
  clear hn
  have hA := Lib.hid True.intro
  go_enter Try.func108, Try.ntmps108
  go_wp2_with (first
    | (clear hA; at_builtin; refine wl_append_new _ rfl _ _ 27 rfl 5 i0 _ 1 1 Try.underlying27 hi0 hz0 hz1 hz2 rfl (by decide) rfl A n c _ rfl hl (u8s_one _) (by simp [maxLen]; omega) (by omega) ?_; intro A1 c1 w1 hown1 hS1 hat1)
    | (at_builtin; refine wl_append _ rfl _ _ 27 rfl 5 i0 _ 1 1 Try.underlying27 hi0 hz0 hz1 hz2 rfl (by decide) A1 n c1 (u8s l) rfl (hown1.alloc _) _ 1 1 [.int .u8 128] rfl (sl_one _ _ _) (by simp [Value.oneCell']) (by simp [maxLen]; omega) (by omega) ?_; intro A2 c2 w2 hown2 hS2 hat2))
  rw [u8s_append_one] at hown2
  have hA2 : ∀ k, At A2 k → w.heap.size ≤ k := fun k hk => by
    have h1 := hS1.size
    rcases hat2 k hk with h | h
    · exact (hat1 k h).1
    · simp at h; omega
  have hS02 : Step (fun _ => False) w w2 := (hS1.alloc _).trans hS2 (fun i hi h => by have := (hat1 i h).1; omega)
  have hz := Nat.mod_lt (119 - n % 64) (show 0 < 64 by omega)
  obtain ⟨Z, hZ⟩ : ∃ Z, zerosN n = Z := ⟨_, rfl⟩
  have hZ' : (119 - n % 64) % 64 = Z := hZ
  have HZ := Lib.hid hZ
  go_loopw [3] (fun v wr => ∃ (z k : Nat) (A' : Option Addr) (c' : Nat), v = .slice A' k c' ∧ z ≤ Z ∧ k = n + 1 + z ∧ Own wr 5 1 A' k c' (u8s (l ++ 128 :: zeros z)) ∧ (∀ j, At A' j → w.heap.size ≤ j) ∧ Step (fun _ => False) w wr) (fun v _ => match v with | .slice _ m _ => n + 1 + Z - m | _ => 0)
  case atStart => exact ⟨0, n + 1, A2, c2, rfl, by omega, by omega, hown2, hA2, hS02⟩
  case round =>
    obtain ⟨z, k, A', c', rfl, hzz, hk, hown, hA', hS⟩ := hrel
    have hkb : k ≤ 10000100 := by omega
    by_cases hlt : z < Z
    · have h1 : ((k : Int) % 64 == 56) = false := by simp; omega
      have h2 : ¬ (k : Int) % 64 = 56 := by omega
      have Hk := Lib.hid hk
      clear hk
      go_wp2_with (at_builtin; refine wl_append _ rfl _ _ 27 rfl 5 i0 _ 1 1 Try.underlying27 hi0 hz0 hz1 hz2 rfl (by decide) A' k c' _ rfl (hown.alloc _) _ 1 1 [.int .u8 0] rfl (sl_one _ _ _) (by simp [Value.oneCell']) (by simp [maxLen]; omega) (by omega) ?_; intro A6 c6 w6 hown6 hS6 hat6)
      have hk := Hk.out
      refine ⟨⟨z + 1, k + 1, A6, c6, rfl, by omega, by omega, ?_, fun j hj => ?_, (hS.alloc _).trans hS6 (fun i hi h => by have := hA' i h; omega)⟩, ?_⟩
      · rw [zeros_snoc, ← List.cons_append, ← List.append_assoc, ← u8s_append]
        exact hown6
      · have := hS.size
        rcases hat6 j hj with h | h
        · exact hA' j h
        · simp at h; omega
      · show n + 1 + Z - (k + 1) < n + 1 + Z - k
        omega
    · have hzZ : z = Z := by omega
      have h1 : ((k : Int) % 64 == 56) = true := by simp; omega
      have h2 : (k : Int) % 64 = 56 := by omega
      have Hk := Lib.hid hk
      have HzZ := Lib.hid hzZ
      clear hk hzZ
      have w1' : IntKind.u64.wrap (n : Int) = n := by rw [IntKind.wrap_u64]; omega
      have w2' : IntKind.u64.wrap ((n : Int) * 8) = n * 8 := by rw [IntKind.wrap_u64]; omega
      go_wp2
      rw [HzZ.out] at hown
      clear h1 h2 w1' w2'
      go_loopw [3, 5] (fun v x wr => ∃ (t m : Nat) (A' : Option Addr) (c' : Nat), v = .slice A' m c' ∧ x = .int .i64 (7 - (t : Int)) ∧ t ≤ 8 ∧ m = n + 1 + Z + t ∧ Own wr 5 1 A' m c' (u8s (l ++ (128 :: zeros Z ++ (lenB n).take t))) ∧ (∀ j, At A' j → w.heap.size ≤ j) ∧ Step (fun _ => False) w wr) (fun _ x _ => (intOf x + 1).toNat)
      case atStart => exact ⟨0, k, A', c', rfl, rfl, by omega, by have := Hk.out; have := HzZ.out; omega, by simpa using hown, hA', hS⟩
      case round =>
        obtain ⟨t, m, A', c', rfl, rfl, ht, hm', hown, hA', hS⟩ := hrel
        have hmb : m ≤ 10000200 := by omega
        by_cases hlt : t < 8
        · have f0 : (0 : Int) ≤ 7 - (t : Int) := by omega
          have f1 : (8 * (7 - (t : Int))).toNat = 56 - 8 * t := by omega
          have f2 : min (56 - 8 * t) 64 = 56 - 8 * t := by omega
          have f3 : (0 : Int) ≤ 8 * (7 - (t : Int)) := by omega
          have f4 : IntKind.i64.wrap (8 * (7 - (t : Int))) = 8 * (7 - (t : Int)) := wrap_small _ (by omega) (by omega)
          have f5 : IntKind.i64.wrap (7 - (t : Int) - 1) = 7 - (t : Int) - 1 := by
            have h : ∀ j : Fin 8, IntKind.i64.wrap (7 - (j.1 : Int) - 1) = 7 - (j.1 : Int) - 1 := by decide +kernel
            exact h ⟨t, hlt⟩
          have Hm' := Lib.hid hm'
          clear hm'
          go_wp2_with (at_builtin; refine wl_append _ rfl _ _ 27 rfl 5 i0 _ 1 1 Try.underlying27 hi0 hz0 hz1 hz2 rfl (by decide) A' m c' _ rfl (hown.alloc _) _ 1 1 [.int .u8 ((n : Int) * 8 / 2 ^ (56 - 8 * t) % 256)] rfl (sl_one _ _ _) (by simp [Value.oneCell']) (by simp [maxLen]; omega) (by omega) ?_; intro A6 c6 w6 hown6 hS6 hat6)
          refine ⟨⟨t + 1, m + 1, A6, c6, rfl, congrArg (Value.int .i64) (by omega), by omega, by have := Hm'.out; omega, ?_, fun j hj => ?_, (hS.alloc _).trans hS6 (fun j hj h => by have := hA' j h; omega)⟩, ?_⟩
          · have hb : [Value.int .u8 ((n : Int) * 8 / 2 ^ (56 - 8 * t) % 256)] = u8s [UInt8.ofNat (n * 8 / 2 ^ (56 - 8 * t))] := by
              simp only [u8s, u8v, List.map_cons, List.map_nil, UInt8.toNat_ofNat']
              rw [Int.natCast_emod, Int.natCast_ediv, Int.natCast_mul, Int.natCast_pow]
              rfl
            rw [hb, u8s_append, List.append_assoc, List.append_assoc] at hown6
            rw [lenB_take hlt]
            exact hown6
          · have := hS.size
            rcases hat6 j hj with h | h
            · exact hA' j h
            · simp at h; omega
          · simp only [intOf]; omega
        · have : t = 8 := by omega
          subst this
          have hfull : l ++ (128 :: zeros Z ++ (lenB n).take 8) = fullM l := by
            rw [List.take_of_length_le (by simp [lenB]), fullM, ← Hn.out, tailM, HZ.out]
          rw [hfull] at hown
          clear hfull
          have hmF := hown.sl.n_eq
          have h64 : m % 64 = 0 := by rw [hmF]; exact fullM_mod l
          have hbl : (blocksM l).length = m / 64 := by rw [blocksM_length, ← hmF]
          have Hbl := Lib.hid hbl
          have HmF := Lib.hid hmF
          have hmb' : m ≤ 100000000 := by omega
          clear hm' hbl hmF
          go_wp2_with (go_at_call 60; refine (chunks_ref hown.sl hmb' h64).mono ?_; rintro e w7 ⟨B, k7, d7, rfl, ps, ⟨hps, hB⟩, hpi, hpm, hS7⟩)
          have hk7 : k7 = ps.length := hps.n_flat (fun _ => rfl) (by omega)
          have hpl : ps.length = (blocksM l).length := by rw [← List.length_map (f := fun x => x.x), hpm, blocksM_length, ← HmF.out]; simp
          have hpx : ∀ i (hi : i < ps.length), (ps[i]).x = chunk64 (fullM l) i := fun i hi => by
            have h1 : (ps.map (·.x))[i]? = some (ps[i]).x := by simp [hi]
            rw [hpm, List.getElem?_map, List.getElem?_range (by rw [hpl, Hbl.out] at hi; exact hi)] at h1
            exact (Option.some.inj h1).symm
          have h0 : St (fun _ => False) w w7 [eZone wr.heap.size w7.heap.size (fun w => Sl w B k7 d7 1 (ps.flatMap piecec) ∧ ∀ p ∈ ps, Sl w p.A 64 p.c 1 (u8s p.x.1) ∧ ∀ k, At p.A k → wr.heap.size ≤ k ∧ k < w7.heap.size)
              (fun hp hs hd => ⟨hp.1.step hs (fun k hk => hd k (hB k hk.2).1 (hB k hk.2).2), fun p hm => ⟨(hp.2 p hm).1.step hs (fun k hk => hd k ((hp.2 p hm).2 k hk.2).1 ((hp.2 p hm).2 k hk.2).2), (hp.2 p hm).2⟩⟩)] :=
            ((St.nil w).quiet hS).add hS7 (eZone wr.heap.size w7.heap.size _ _) ⟨⟨hps, fun p hm => ⟨(hpi p hm).1.sl, fun k hk => ⟨(hpi p hm).2 k hk, (hpi p hm).1.lt k hk⟩⟩⟩, Nat.le_refl _⟩ (fun k hk => hk.1) (fun _ hk => hk)
          obtain ⟨E, hE, h⟩ : ∃ E : Ent, (∀ w, E.holds w → Sl w B k7 d7 1 (ps.flatMap piecec) ∧ ∀ p ∈ ps, Sl w p.A 64 p.c 1 (u8s p.x.1)) ∧ St (fun _ => False) w w7 [E] := by
            refine ⟨_, ?_, h0⟩
            exact fun w hw => ⟨hw.1.1, fun p hp => (hw.1.2 p hp).1⟩
          replace h := h.nilRow 120 64
          have Hk7 := Lib.hid hk7
          have Hpl := Lib.hid hpl
          have Hpx := Lib.hid hpx
          have HE := Lib.hid hE
          have hk7b : k7 ≤ 10000000 := by have := Hbl.out; omega
          clear h0 hk7 hpl hpx hpm hpi hps hown hS7 hS hA' hB hA2 hS02 hat1 hat2 hS1 hS2 hown1 hown2 hE
          go_loopw [6, 39] (fun o x wr => ∃ (j : Nat) (B' : Option Addr) (d' : Nat), o = .slice B' j d' ∧ x = .int .i64 (j : Int) ∧ j ≤ k7 ∧ St (fun _ => False) w wr [eOwn 120 64 B' j d' (((blocksM l).take j).flatMap blkc), E]) (fun _ x _ => k7 - (intOf x).toNat)
          case atStart => exact ⟨0, none, 0, rfl, rfl, by omega, by simpa using h⟩
          case round =>
            clear h
            obtain ⟨j, B', d', rfl, rfl, hj, h⟩ := hrel
            by_cases hlt : j < k7
            · have hjp : j < ps.length := by have := Hk7.out; omega
              obtain ⟨hsl, hpc⟩ := HE.out _ (h.get (e := E))
              obtain ⟨b, off, rfl, hcell⟩ := hsl.elem (f := piecec) (fun _ => rfl) hjp (by omega)
              obtain ⟨b2, off2, hA, hbl2, hcells2⟩ := (hpc _ (List.getElem_mem hjp)).pos (by omega)
              have hc1 : wr.cell? ⟨b, off + j, none⟩ = some (.slice (some ⟨b2, off2, none⟩) 64 (ps[j]).c) := by
                have := hcell 0 (.slice (ps[j]).A 64 (ps[j]).c) rfl
                rwa [Nat.mul_one, Nat.add_zero, hA] at this
              have hcap := (hpc _ (List.getElem_mem hjp)).le
              have hc2 : ∀ {w L}, St (fun _ => False) w wr L → ∀ w', St (fun _ => False) w w' [eOwn 120 64 B' j d' (((blocksM l).take j).flatMap blkc), E] → Cells w' b2 off2 (u8s (chunk64 (fullM l) j).1) := fun _ w' h => by
                have h1 := (HE.out _ (h.get (e := E))).2 _ (List.getElem_mem hjp)
                rw [Hpx.out j hjp] at h1
                exact h1.cells hA
              have hc3 := hc2 h _ h
              have hpxj := Hpx.out j hjp
              generalize (ps[j]).c = cj at *
              have hat : ∀ W', (Instr.arrayAt 120 (.slice (some ⟨b2, off2, none⟩) 64 cj)).run Try.prog W' = .ok (.pointer (some ⟨b2, off2, none⟩)) W' := fun W' => run_arrayAt _ _ _ 64 _ _ _ Try.underlying120 (Nat.le_refl _)
              have htk := blocksM_take (l := l) (j := j) (by have := Hbl.out; have := HmF.out; have := Hk7.out; have := Hpl.out; omega)
              have Htk := Lib.hid htk
              have f1 : (j : Int) < (k7 : Int) := by omega
              clear hcell hcells2 hpc hsl hA hpxj hc2 htk
              go_wp2_with (first
                | (refine wl_reads rfl (ex_load_at _ _ rfl b2 off2 rfl (u8s (chunk64 (fullM l) j).1) (by rw [u8s_length, (chunk64 (fullM l) j).2]) hc3) ?_)
                | (refine wl_runs rfl (ex_append h _ _ _ rfl B' rfl _ 1 1 rfl (h.slBox _) (u8s_one _) (by simp [maxLen]; omega) (by omega)) ?_; clear h; rintro _ w ⟨B2, d2, rfl, h⟩)
                | (refine wl_reads rfl (ex_loadv h _ _ rfl _ _ rfl) ?_) | (refine wl_runs rfl (ex_store1i h _ _ _ rfl _ _ rfl _ _ rfl) ?_; clear h; rintro _ w ⟨rfl, h⟩; try dsimp only [Act.put]) | (refine wl_runs rfl (ex_store1s h _ _ _ rfl _ _ rfl _ _ _ rfl) ?_; clear h; rintro _ w ⟨rfl, h⟩; try dsimp only [Act.put]) | (refine wl_runs rfl (ex_store1b h _ _ _ rfl _ _ rfl _ rfl) ?_; clear h; rintro _ w ⟨rfl, h⟩; try dsimp only [Act.put]) | (refine wl_runs rfl (ex_store1t h _ _ _ rfl _ _ rfl _ rfl) ?_; clear h; rintro _ w ⟨rfl, h⟩; try dsimp only [Act.put]) | (refine wl_runs rfl (ex_store1p h _ _ _ rfl _ _ rfl _ rfl) ?_; clear h; rintro _ w ⟨rfl, h⟩; try dsimp only [Act.put]) | (refine wl_runs rfl (ex_store1m h _ _ _ rfl _ _ rfl _ rfl) ?_; clear h; rintro _ w ⟨rfl, h⟩; try dsimp only [Act.put]) | (refine wl_runs rfl (ex_store h _ _ _ rfl _ _ rfl _ rfl) ?_; clear h; rintro _ w ⟨rfl, h⟩; try dsimp only [Act.put]) | (refine wl_runs rfl (ex_alloc h _ rfl) ?_; clear h; rintro _ w ⟨g, rfl, h⟩) | (refine wl_runs rfl (ex_box h _ _ rfl _ rfl) ?_; clear h; rintro _ w ⟨g, rfl, h⟩) | (refine wl_runs rfl (ex_box1i h _ _ rfl _ _ rfl) ?_; clear h; rintro _ w ⟨g, rfl, h⟩) | (refine wl_runs rfl (ex_box1s h _ _ rfl _ _ _ rfl) ?_; clear h; rintro _ w ⟨g, rfl, h⟩) | (refine wl_runs rfl (ex_box1b h _ _ rfl _ rfl) ?_; clear h; rintro _ w ⟨g, rfl, h⟩) | (refine wl_runs rfl (ex_box1t h _ _ rfl _ rfl) ?_; clear h; rintro _ w ⟨g, rfl, h⟩) | (refine wl_runs rfl (ex_box1p h _ _ rfl _ rfl) ?_; clear h; rintro _ w ⟨g, rfl, h⟩) | (refine wl_runs rfl (ex_box1m h _ _ rfl _ rfl) ?_; clear h; rintro _ w ⟨g, rfl, h⟩) | (refine wl_runs rfl (ex_slice1 h _ _ rfl _ rfl) ?_; clear h; rintro _ w ⟨g, rfl, h⟩) | (refine wl_runs rfl (ex_slice1i h _ _ rfl _ _ rfl) ?_; clear h; rintro _ w ⟨g, rfl, h⟩) | (refine wl_runs rfl (ex_slice1s h _ _ rfl _ _ _ rfl) ?_; clear h; rintro _ w ⟨g, rfl, h⟩) | (refine wl_runs rfl (ex_slice1b h _ _ rfl _ rfl) ?_; clear h; rintro _ w ⟨g, rfl, h⟩) | (refine wl_runs rfl (ex_slice1t h _ _ rfl _ rfl) ?_; clear h; rintro _ w ⟨g, rfl, h⟩) | (refine wl_runs rfl (ex_slice1p h _ _ rfl _ rfl) ?_; clear h; rintro _ w ⟨g, rfl, h⟩) | (refine wl_runs rfl (ex_slice1m h _ _ rfl _ rfl) ?_; clear h; rintro _ w ⟨g, rfl, h⟩) | (refine wl_reads rfl (ex_lit0 _ rfl) ?_))
              refine ⟨⟨j + 1, B2, d2, rfl, by go_num, by omega, ?_⟩, by simp only [intOf]; omega⟩
              rw [Htk.out, List.flatMap_append, List.flatMap_cons, List.flatMap_nil, List.append_nil]
              change St _ _ _ [eOwn _ _ _ _ _ (_ ++ u8s (chunk64 (fullM l) j).1), E]
              exact h.to
            · have hj7 : j = (blocksM l).length := by have := Hk7.out; have := Hpl.out; omega
              have Hj7 := Lib.hid hj7
              have f1 : ¬ (j : Int) < (k7 : Int) := by omega
              clear hj7
              go_wp2
              go_ret
              have hj7 := Hj7.out
              rw [List.take_of_length_le (by omega)] at h
              refine ⟨B', d', ?_, ?_⟩
              · rw [← hj7]
                rfl
              · rw [← hj7]
                exact h.to
end Go.Proofs.Ytcmgjoamfjijhaa
