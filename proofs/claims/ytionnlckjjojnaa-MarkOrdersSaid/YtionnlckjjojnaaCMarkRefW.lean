/- The reference's Walk. -/
import Derived.Test.YtionnlckjjojnaaCMarkRefF
import Derived.Test.YtionnlckjjojnaaCMarkWalk
namespace Go.Proofs.Ytionnlckjjojnaa
open Go.RowKit Go.Maps
set_option linter.unusedVariables false
set_option linter.unusedSimpArgs false

/-- A level: read, or one's own. -/
def eLv (b : Bool) (A : Option Addr) (n c : Nat) (l : List Id) : Ent := if b then eOwn 33 32 A n c (l.flatMap idc) else eSl A n c 32 (l.flatMap idc)
instance (priority := high) HasSl.lv (b : Bool) (A : Option Addr) (n c : Nat) (l : List Id) (L : List Ent) : HasSl (eLv b A n c l :: L) A n c 32 (l.flatMap idc) := ⟨fun w h => by
  have := h (eLv b A n c l) List.mem_cons_self
  cases b with
  | true => exact Tl.sl (show Tl w _ 32 A n c _ from this)
  | false => exact (show 0 < 32 ∧ Sl w A n c 32 _ from this).2⟩
set_option maxRecDepth 100000 in
set_option maxHeartbeats 4000000 in
theorem walk_ref {S : Nat → Prop} {w0 w : World} {L F : List Ent} {A B : Option Addr} {c dr : Nat} {ps : List ObAt} {roots : List Id} (h : St S w0 w L) [ka : HasObs obc L A ps.length c ps] [kb : Slot L (eSl B roots.length dr 32 (roots.flatMap idc)) F] (hl : ps.length ≤ 1000000) (hls : ∀ p ∈ ps, p.links.length ≤ 1000000) (hr : roots.length ≤ 1000000) :
    Calls Try.prog 13 #[.slice A ps.length c, .slice B roots.length dr] w fun e w' => ∃ A1 c1 A2 c2, e = .returned (.tuple #[.slice A1 (walkM (obsM ps) roots).length c1, .slice A2 (walkM (obsM ps) roots).length c2]) ∧
      St S w0 w' (eOwn 33 32 A1 (walkM (obsM ps) roots).length c1 ((reachM (obsM ps) roots).flatMap idc) :: eOwn 3 1 A2 (walkM (obsM ps) roots).length c2 ((walkM (obsM ps) roots).map fun p => natI p.1) :: L) := by
  have hM : ∀ o ∈ obsM ps, o.links.length ≤ 1000000 := fun o ho => by
    obtain ⟨p, hp, rfl⟩ := List.mem_map.1 ho
    exact hls p hp
  have HM := Lib.hid hM
  have Hls := Lib.hid hls
  have hN : (obsM ps).length = ps.length := by simp
  have HN := Lib.hid hN
  replace h := h.addSub (e := eSl B roots.length dr 32 (roots.flatMap idc)) (eSl B roots.length dr 32 (roots.flatMap idc)) (h.get (e := eSl B roots.length dr 32 (roots.flatMap idc))) (fun _ h => h) (fun _ h => h) (fun _ h => h)
  replace h : St S w0 w (eLv false B roots.length dr roots :: L) := h
  replace h := (h.nilRow 3 1).nilRow 33 32
  clear hM hls hN
  go_enter Try.func13, Try.ntmps13
  go_wp2
  go_loopw [6, 7, 8, 9] (fun ov fv lv dv wr => ∃ (k d : Nat) (out : List (Nat × Id)) (lev : List Id) (AO AF AL : Option Addr) (cO cF cL : Nat) (b : Bool), ov = .slice AO out.length cO ∧ fv = .slice AF out.length cF ∧ lv = .slice AL lev.length cL ∧ dv = .int .i64 (d : Int) ∧ k + d = ps.length + 1 ∧ Hid (WInv (obsM ps) k d out lev) ∧ Hid (walkF (obsM ps) k d out lev = walkM (obsM ps) roots) ∧ lev.length ≤ 1000000 * 1000000 ∧ out.length ≤ ps.length ∧
      St S w0 wr (eOwn 33 32 AO out.length cO ((out.map (·.2)).flatMap idc) :: eOwn 3 1 AF out.length cF (out.map fun p => natI p.1) :: eLv b AL lev.length cL lev :: L)) (fun _ _ _ dv _ => ps.length + 2 - (intOf dv).toNat)
  case atStart =>
    refine ⟨ps.length + 1, 0, [], roots, none, none, B, 0, 0, dr, false, rfl, rfl, rfl, rfl, rfl, Lib.hid ?_, Lib.hid ?_, by omega, by simp, h⟩
    · rw [← HN.out]; exact WInv.init _ _
    · rw [← HN.out]; rfl
  case round =>
    clear h
    obtain ⟨k, d, out, lev, AO, AF, AL, cO, cF, cL, b, rfl, rfl, rfl, rfl, hkd, Hw, Hrest, hlev, hout, h⟩ := hrel
    by_cases hz : lev = []
    · subst hz
      have Hfin : Hid (out = walkM (obsM ps) roots) := Lib.hid (by rw [← Hrest.out, walkF_nil])
      have f0 : ¬ (0 : Int) < (([] : List Id).length : Int) := by simp
      go_wp2
      go_ret2
      have e := Hfin.out
      have e2 : reachM (obsM ps) roots = out.map (·.2) := by rw [reachM, e]
      rw [e2, ← e]
      exact ⟨AO, cO, AF, cF, rfl, h.to⟩
    · obtain ⟨k', hk', hsi⟩ := Hw.out.level hz
      subst hk'
      have Hsi := Lib.hid hsi
      have Hrest2 : Hid (restM (obsM ps) k' d (out, []) lev = walkM (obsM ps) roots) := Lib.hid (by rw [← walkF_rest hz]; exact Hrest.out)
      have hpos : 0 < lev.length := List.length_pos_iff.2 hz
      have f0 : (0 : Int) < (lev.length : Int) := by omega
      have hdl : d ≤ 1000001 := by omega
      clear hsi hz Hrest Hw
      replace h := h.nilRow 33 32
      go_wp2
      go_loopw [6, 7, 10, 22] (fun ov fv nv iv wr => ∃ (j : Nat) (s : WS) (AO AF AN : Option Addr) (cO cF cN : Nat), ov = .slice AO s.1.length cO ∧ fv = .slice AF s.1.length cF ∧ nv = .slice AN s.2.length cN ∧ iv = .int .i64 (j : Int) ∧ j ≤ lev.length ∧ Hid (SInv (obsM ps) k' d s) ∧ Hid (restM (obsM ps) k' d s (lev.drop j) = walkM (obsM ps) roots) ∧ s.1.length ≤ ps.length ∧ Hid (s.2.length ≤ 1000000 * s.1.length) ∧
          St S w0 wr (eOwn 33 32 AN s.2.length cN (s.2.flatMap idc) :: eOwn 33 32 AO s.1.length cO ((s.1.map (·.2)).flatMap idc) :: eOwn 3 1 AF s.1.length cF (s.1.map fun p => natI p.1) :: eLv b AL lev.length cL lev :: L)) (fun _ _ _ iv _ => lev.length - (intOf iv).toNat)
      case atStart => exact ⟨0, (out, []), AO, AF, none, cO, cF, 0, rfl, rfl, rfl, rfl, Nat.zero_le _, Hsi, Hrest2, hout, Lib.hid (by simp), h⟩
      case round =>
        clear h Hsi Hrest2 hout
        obtain ⟨j, s, AO, AF, AN, cO, cF, cN, rfl, rfl, rfl, rfl, hjl, Hsi, Hrest, hout, Hlen, h⟩ := hrel
        by_cases hjl2 : j < lev.length
        · have f2 : (j : Int) < (lev.length : Int) := by omega
          have t1 : ((j : Int)).toNat = j := by omega
          obtain ⟨x, hx⟩ : ∃ x, lev[j] = x := ⟨_, rfl⟩
          have hrx : Row (u8s x.1) 32 := Row.u32 x
          obtain ⟨bL, oL, rfl, _⟩ := (h.sl AL lev.length cL).pos (by omega)
          have hcs : ∀ {w}, Sl w (some ⟨bL, oL, none⟩) lev.length cL 32 (lev.flatMap idc) → Cells w bL (oL + j * 32) (u8s x.1) := fun hs => by rw [← hx]; exact hs.elemAt idc_length hjl2 (by omega)
          have Hdrop : Hid (restM (obsM ps) k' d (stepM (obsM ps) d s x) (lev.drop (j + 1)) = walkM (obsM ps) roots) := Lib.hid (by
            rw [← Hrest.out, List.drop_eq_getElem_cons hjl2, hx, rest_cons])
          have Hsi2 := Lib.hid (Hsi.out.step x)
          have Hlen2 := Lib.hid (step_len (x := x) (d := d) HM.out Hlen.out)
          clear hx
          cases hf : fstIx (ps.map (·.id)) x with
          | none =>
            have Hst := Lib.hid (step_no (d := d) (s := s) (by rw [ids_obs]; exact hf))
            rw [Hst.out] at Hdrop Hsi2
            have Hf : Hid (findV (fstIx (ps.map (·.id)) x) = -1) := Lib.hid (by rw [hf]; rfl)
            clear hf
            go_wp2_with (first | (refine wl_at 25 rfl ?_; refine wl_reads rfl (ex_load_at _ _ rfl bL (oL + j * 32) rfl (u8s x.1) (by rw [u8s_length, x.2]) (hcs (h.sl (some ⟨bL, oL, none⟩) lev.length cL))) ?_) | (refine wl_at 12 rfl ?_; refine wl_runs rfl (ex_alloc h 33 rfl) ?_; clear h; rintro _ w ⟨g12, rfl, h⟩) | (refine wl_none rfl ?_; refine wl_runs rfl (ex_store h _ _ _ rfl _ _ rfl (u8s x.1) rfl) ?_; clear h; rintro _ w ⟨rfl, h⟩; try dsimp only [Act.put]) | (refine wl_at 27 rfl ?_; refine wl_reads rfl (ex_loadv h _ _ rfl _ _ rfl) ?_) | (go_at_call 33; refine (find_ref (A := A) (c := c) (ps := ps) (x := x) h hl).mono ?_; rw [Hf.out]; clear h; rintro e w ⟨rfl, h⟩))
            refine ⟨⟨j + 1, s, AO, AF, AN, cO, cF, cN, rfl, rfl, rfl, by push_cast; rfl, by omega, Hsi2, Hdrop, hout, Hlen, h.to⟩, ?_⟩
            simp only [intOf]
            omega
          | some q =>
            have Hf : Hid (findV (fstIx (ps.map (·.id)) x) = (q : Int)) := Lib.hid (by rw [hf]; rfl)
            have f4 : ¬ (q : Int) < 0 := by omega
            by_cases hmet : x ∈ s.1.map (·.2)
            · have Hst := Lib.hid (step_met (d := d) (by rw [ids_obs]; exact hf) hmet)
              rw [Hst.out] at Hdrop Hsi2
              have Hhas : Hid (decide (x ∈ s.1.map (·.2)) = true) := Lib.hid (decide_eq_true hmet)
              clear hf hmet
              go_wp2_with (first
                | (refine wl_at 25 rfl ?_; refine wl_reads rfl (ex_load_at _ _ rfl bL (oL + j * 32) rfl (u8s x.1) (by rw [u8s_length, x.2]) (hcs (h.sl (some ⟨bL, oL, none⟩) lev.length cL))) ?_) | (refine wl_at 12 rfl ?_; refine wl_runs rfl (ex_alloc h 33 rfl) ?_; clear h; rintro _ w ⟨g12, rfl, h⟩) | (refine wl_none rfl ?_; refine wl_runs rfl (ex_store h _ _ _ rfl _ _ rfl (u8s x.1) rfl) ?_; clear h; rintro _ w ⟨rfl, h⟩; try dsimp only [Act.put]) | (refine wl_at 27 rfl ?_; refine wl_reads rfl (ex_loadv h _ _ rfl _ _ rfl) ?_) | (go_at_call 33; refine (find_ref (A := A) (c := c) (ps := ps) (x := x) h hl).mono ?_; rw [Hf.out]; clear h; rintro e w ⟨rfl, h⟩) | (refine wl_at 33 rfl ?_; refine wl_reads rfl (ex_loadv h _ _ rfl _ _ rfl) ?_)
                | (go_at_call 34; refine (has_ref (A := AO) (n := s.1.length) (c := cO) (l := s.1.map fun p : Nat × Id => p.2) (x := x) h (by rw [List.length_map]; omega)).mono ?_; rw [Hhas.out]; clear h; rintro e w ⟨rfl, h⟩))
              refine ⟨⟨j + 1, s, AO, AF, AN, cO, cF, cN, rfl, rfl, rfl, by push_cast; rfl, by omega, Hsi2, Hdrop, hout, Hlen, h.to⟩, ?_⟩
              simp only [intOf]
              omega
            · have Hhas : Hid (decide (x ∈ s.1.map (·.2)) = false) := Lib.hid (decide_eq_false hmet)
              obtain ⟨hq, _, _⟩ := fstIx_some hf
              rw [List.length_map] at hq
              obtain ⟨p, hp⟩ : ∃ p, ps[q] = p := ⟨_, rfl⟩
              have hpm : p ∈ ps := by rw [← hp]; exact List.getElem_mem _
              have hla : linksAt (obsM ps) q = p.links := by simp [linksAt, hq, hp, obOf]
              have hst := step_new (d := d) (s := s) (by rw [ids_obs]; exact hf) hmet
              rw [hla] at hst
              rw [hst] at Hdrop Hsi2 Hlen2
              have hpn := (h.obsAt obc A ps.length c).2.n_eq hpm
              have hpl := Hls.out p hpm
              have hnx : s.2.length ≤ 1000000 * 1000000 := Nat.le_trans Hlen.out (Nat.mul_le_mul_left _ (by omega))
              have hout2 : Hid ((s.1 ++ [(d, x)]).length ≤ ps.length) := Lib.hid (by have := inv_len Hsi2.out.nd Hsi2.out.sub; rwa [HN.out] at this)
              obtain ⟨bA, oA, rfl, _⟩ := (h.obsAt obc A ps.length c).1.pos (by omega)
              have hcp : ∀ {w}, Sl w (some ⟨bA, oA, none⟩) ps.length c 34 (ps.flatMap obc) → w.cell? ⟨bA, oA + q * 34 + 32, none⟩ = some (.slice p.A p.n p.c) := fun hs => cell_links (by rw [← hp]; exact hs.elemAt obc_length hq (by omega))
              have f3 : (q : Int) < (ps.length : Int) := by omega
              have t2 : ((q : Int)).toNat = q := by omega
              have hone := ids_one p.links
              have Hpn := Lib.hid hpn
              have hpn2 : p.n ≤ 1000000 := by rw [hpn]; exact hpl
              clear hpn hpl
              have h1x := u8s_one x.1
              clear hf hmet hla hst hp Hsi Hlen
              go_wp2_with (first
                | (refine wl_at 25 rfl ?_; refine wl_reads rfl (ex_load_at _ _ rfl bL (oL + j * 32) rfl (u8s x.1) (by rw [u8s_length, x.2]) (hcs (h.sl (some ⟨bL, oL, none⟩) lev.length cL))) ?_) | (refine wl_at 12 rfl ?_; refine wl_runs rfl (ex_alloc h 33 rfl) ?_; clear h; rintro _ w ⟨g12, rfl, h⟩) | (refine wl_none rfl ?_; refine wl_runs rfl (ex_store h _ _ _ rfl _ _ rfl (u8s x.1) rfl) ?_; clear h; rintro _ w ⟨rfl, h⟩; try dsimp only [Act.put]) | (refine wl_at 27 rfl ?_; refine wl_reads rfl (ex_loadv h _ _ rfl _ _ rfl) ?_)
                | (go_at_call 33; refine (find_ref (A := some ⟨bA, oA, none⟩) (c := c) (ps := ps) (x := x) h hl).mono ?_; rw [Hf.out]; clear h; rintro e w ⟨rfl, h⟩)
                | (refine wl_at 33 rfl ?_; refine wl_reads rfl (ex_loadv h _ _ rfl _ _ rfl) ?_)
                | (go_at_call 34; refine (has_ref (A := AO) (n := s.1.length) (c := cO) (l := s.1.map fun p : Nat × Id => p.2) (x := x) h (by rw [List.length_map]; omega)).mono ?_; rw [Hhas.out]; clear h; rintro e w ⟨rfl, h⟩)
                | (refine wl_at 37 rfl ?_; refine wl_reads rfl (ex_loadv h _ _ rfl _ _ rfl) ?_)
                | (refine wl_at 38 rfl ?_; refine wl_runs rfl (ex_slice1 h _ _ rfl (u8s x.1) rfl) ?_; clear h; rintro _ w ⟨gq, rfl, h⟩)
                | (refine wl_at 39 rfl ?_; refine wl_runs rfl (ex_append h _ _ _ rfl AO rfl (some ⟨gq, 0, none⟩) 1 1 rfl (h.slBox gq) h1x (by simp [maxLen]; omega) (by omega)) ?_; clear h; rintro _ w ⟨AO2, cO2, rfl, h⟩)
                | (refine wl_at 42 rfl ?_; refine wl_runs rfl (ex_slice1i h _ _ rfl _ _ rfl) ?_; clear h; rintro _ w ⟨gq2, rfl, h⟩)
                | (refine wl_at 43 rfl ?_; refine wl_runs rfl (ex_append h _ _ _ rfl AF rfl (some ⟨gq2, 0, none⟩) 1 1 rfl (h.slBox gq2) (by simp; rfl) (by simp [maxLen]; omega) (by omega)) ?_; clear h; rintro _ w ⟨AF2, cF2, rfl, h⟩)
                | (refine wl_at 49 rfl ?_; refine wl_reads rfl (ex_load1_at _ _ rfl bA (oA + q * 34 + 32) rfl (.slice p.A p.n p.c) (hcp (h.obsAt obc (some ⟨bA, oA, none⟩) ps.length c).1)) ?_)
                | (refine wl_at 50 rfl ?_; refine wl_runs rfl (ex_append h _ _ _ rfl AN rfl p.A p.n p.c rfl ((h.obsAt obc (some ⟨bA, oA, none⟩) ps.length c).2 p hpm) hone (by simp [maxLen]; omega) (by omega)) ?_; clear h; rintro _ w ⟨A2, c2, rfl, h⟩))
              have e1 : s.2.length + p.n = (s.2 ++ p.links).length := by rw [List.length_append, Hpn.out]
              have e2 : s.2.flatMap idc ++ p.links.flatMap idc = (s.2 ++ p.links).flatMap idc := by rw [List.flatMap_append]
              have e3 : s.1.length + 1 = (s.1 ++ [(d, x)]).length := by simp
              have e4 : (s.1.map (·.2)).flatMap idc ++ u8s x.1 = ((s.1 ++ [(d, x)]).map (·.2)).flatMap idc := by simp [idc]
              have e5 : (s.1.map fun p => natI p.1) ++ [.int .i64 (d : Int)] = (s.1 ++ [(d, x)]).map fun p => natI p.1 := by simp [natI]
              rw [e1, e2, e3, e4, e5] at h
              refine ⟨⟨j + 1, (s.1 ++ [(d, x)], s.2 ++ p.links), AO2, AF2, A2, cO2, cF2, c2, by simp, by simp, by simp [Hpn.out], by push_cast; rfl, by omega, Hsi2, Hdrop, hout2.out, Hlen2, h.to⟩, ?_⟩
              simp only [intOf]
              omega
        · obtain rfl : j = lev.length := by omega
          have hkk : ¬ ((lev.length : Int) < (lev.length : Int)) := by omega
          have Hfin : Hid (walkF (obsM ps) k' (d + 1) s.1 s.2 = walkM (obsM ps) roots) := Lib.hid (by
            have := Hrest.out
            rwa [List.drop_length, rest_nil] at this)
          have Hw2 := Lib.hid Hsi.out.done
          have hnx : s.2.length ≤ 1000000 * 1000000 := Nat.le_trans Hlen.out (Nat.mul_le_mul_left _ (by omega))
          clear hjl2 hjl Hrest
          go_wp2
          refine ⟨⟨k', d + 1, s.1, s.2, AO, AF, AN, cO, cF, cN, true, rfl, rfl, rfl, by push_cast; rfl, by omega, Hw2, Hfin, hnx, hout, ?_⟩, ?_⟩
          · exact h.to (L' := eOwn 33 32 AO s.1.length cO ((s.1.map (·.2)).flatMap idc) :: eOwn 3 1 AF s.1.length cF (s.1.map fun p => natI p.1) :: eOwn 33 32 AN s.2.length cN (s.2.flatMap idc) :: L)
          · simp only [intOf]
            omega
end Go.Proofs.Ytionnlckjjojnaa
