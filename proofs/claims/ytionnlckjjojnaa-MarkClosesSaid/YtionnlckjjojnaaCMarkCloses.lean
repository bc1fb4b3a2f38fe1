/- The law MarkCloses: what a reached object links to, and is there, is reached; roots that are there are. -/
import Derived.Test.YtionnlckjjojnaaCMarkSweeps
namespace Go.Proofs.Ytionnlckjjojnaa
open Go.RowKit Go.Maps
set_option linter.unusedVariables false
set_option linter.unusedSimpArgs false

theorem kps_links {kps : List ObAt} {os : List Ob} {roots : List Id} (hk : obsM kps = keptM os roots) {i : Nat} (h : i < kps.length) (hf : ∀ j (hj : j < i), (kps[j]'(Nat.lt_trans hj h)).id ≠ kps[i].id) {z : Id} (hz : z ∈ linksM (goneM os roots)) : z ∉ kps[i].links := by
  have hlen : i < (keptM os roots).length := by rw [← hk]; simpa using h
  have get : ∀ j (hj : j < kps.length) (h2 : j < (keptM os roots).length), (keptM os roots)[j] = obOf kps[j] := fun j hj h2 => by
    have := List.getElem_of_eq hk.symm h2
    simpa [obsM] using this
  have := kept_links hlen (fun j hj => by
    rw [get j (Nat.lt_trans hj h), get i h]
    exact hf j hj) hz
  rw [get i h] at this
  exact this
theorem rises_nodup {l : List Id} (h : Rises l) : l.Nodup := by
  apply List.Pairwise.imp _ h
  intro a b hab e
  subst e
  rw [lessI_irrefl] at hab
  cases hab
theorem take_mem_step {l : List Id} {k : Nat} (hk : k < l.length) {x : Id} : x ∈ l.take (k + 1) ↔ x ∈ l.take k ∨ x = l[k] := by
  rw [List.take_succ_eq_append_getElem hk, List.mem_append, List.mem_singleton]
theorem nodup_take {l : List Id} (h : l.Nodup) {k : Nat} (hk : k < l.length) : l[k] ∉ l.take k := fun hm => by
  obtain ⟨j, hj, e⟩ := List.getElem_of_mem hm
  rw [List.getElem_take] at e
  have hjk : j < k := by rw [List.length_take] at hj; omega
  have := (List.pairwise_iff_getElem.1 h) j k (by omega) hk hjk
  exact this e
def cnt (l : List Id) (x : Id) : Nat := if x ∈ l then 1 else 0
set_option maxRecDepth 100000 in
set_option maxHeartbeats 4000000 in
theorem walk_MarkCloses {w0 : World} {A B : Option Addr} {n c m d : Nat} {ps : List ObAt} {roots : List Id} (hA : Sl w0 A n c 34 (ps.flatMap obc)) (hps : LinksIs w0 ps) (hB : Sl w0 B m d 32 (roots.flatMap idc)) :
    Calls Try.prog 5 #[.slice A n c, .slice B m d] w0 fun e w' => e = .returned (.bool true) ∧ Below w0.heap.size w0 w' := by
  have hn := hA.n_flat obc_length (by omega)
  have hm := hB.n_flat idc_length (by omega)
  subst hn hm
  have h : St (fun _ => False) w0 w0 (eObs obc A ps.length c ps :: eSl B roots.length d 32 (roots.flatMap idc) :: []) := ((St.obs0 hA hps).reading hB (by omega) (fun k hk => ⟨hB.ft_lt (by omega) hk, id⟩)).to
  clear hA hps hB
  cases hf : fewM ps with
  | false =>
    have Hf := Lib.hid hf
    clear hf
    go_enter Try.func5, Try.ntmps5
    go_wp2_with (first
      | (go_at_call 11; refine (mark_awake h).mono ?_; clear h; rintro r w ⟨rfl, h⟩)
      | (go_at_call 12; refine (few_obs (A := A) (c := c) (ps := ps) h).mono ?_; rw [Hf.out]; clear h; rintro r w ⟨rfl, h⟩))
    go_ret
    exact ⟨rfl, h.step.below⟩
  | true =>
    obtain ⟨hl, hls⟩ := few_lens hf
    have Hf := Lib.hid hf
    have Hls := Lib.hid (fun p hp => by have := hls p hp; omega : ∀ p ∈ ps, p.links.length ≤ 1000000)
    clear hf hls
    by_cases hr : 20 < roots.length
    · go_enter Try.func5, Try.ntmps5
      go_wp2_with (first
        | (go_at_call 11; refine (mark_awake h).mono ?_; clear h; rintro r w ⟨rfl, h⟩)
        | (go_at_call 12; refine (few_obs (A := A) (c := c) (ps := ps) h).mono ?_; rw [Hf.out]; clear h; rintro r w ⟨rfl, h⟩))
      go_ret
      exact ⟨rfl, h.step.below⟩
    · have hlg := linksM_length (goneM (obsM ps) roots)
      have hgl : (goneM (obsM ps) roots).length ≤ ps.length := by
        rw [goneM, List.length_map]
        exact Nat.le_trans (List.length_filter_le _ _) (by simp)
      have hnd := rises_nodup (linksM_rises (goneM (obsM ps) roots))
      have hroot : ∀ z ∈ linksM (goneM (obsM ps) roots), z ∉ roots := fun z hz => gone_root hz
      have hcount := count_gone (obsM ps) roots
      obtain ⟨G, hG⟩ : ∃ G, linksM (goneM (obsM ps) roots) = G := ⟨_, rfl⟩
      have HG := Lib.hid hG
      rw [hG] at hlg hnd hroot hcount
      have Hnd := Lib.hid hnd
      have Hroot := Lib.hid hroot
      have Hcount := Lib.hid hcount
      have hGl : G.length ≤ 30 := by omega
      clear hG hlg hgl hnd hroot hcount
      go_enter Try.func5, Try.ntmps5
      go_wp2_with (first
        | (go_at_call 11; refine (mark_awake h).mono ?_; clear h; rintro r w ⟨rfl, h⟩)
        | (go_at_call 12; refine (few_obs (A := A) (c := c) (ps := ps) h).mono ?_; rw [Hf.out]; clear h; rintro r w ⟨rfl, h⟩)
        | (go_at_call 18; refine (mark_sweep (A := A) (B := B) (c := c) (d := d) (ps := ps) (roots := roots) h (by omega) Hls.out (by omega)).mono ?_; rw [HG.out]; clear h; rintro r w ⟨A1, c1, A2, c2, kps, rfl, hk1, h⟩; have Hk1 := Lib.hid hk1; clear hk1))
      have hkl : kps.length ≤ 30 := Nat.le_trans (kept_len Hk1.out) hl
      have Hlink : Hid (∀ i (hi : i < kps.length), (∀ j (hj : j < i), (kps[j]'(Nat.lt_trans hj hi)).id ≠ kps[i].id) → ∀ z ∈ G, z ∉ kps[i].links) := Lib.hid (fun i hi hh z hz => kps_links Hk1.out hi hh (by rw [HG.out]; exact hz))
      have Hkls := Lib.hid (kept_le Hk1.out Hls.out)
      have hck : 0 < kps.length → 0 < c1 := fun h0 => by have := (h.sl A1 kps.length c1).le; omega
      have Hck := Lib.hid hck
      have hc1 := (h.sl A1 kps.length c1).le
      clear hck
      -- each that is gone
      go_loopw [41] (fun iv wr => ∃ k : Nat, iv = .int .i64 (k : Int) ∧ k ≤ G.length ∧ St (fun _ => False) w0 wr (eOwn 44 34 A1 kps.length c1 (kps.flatMap obc) :: eLnk kps :: eOwn 33 32 A2 G.length c2 (G.flatMap idc) :: eObs obc A ps.length c ps :: eSl B roots.length d 32 (roots.flatMap idc) :: [])) (fun iv _ => G.length - (intOf iv).toNat)
      case atStart => exact ⟨0, rfl, Nat.zero_le _, h⟩
      case round =>
        clear h
        obtain ⟨k, rfl, hk, h⟩ := hrel
        by_cases hkG : k < G.length
        · have f2 : (k : Int) < (G.length : Int) := by omega
          have t1 : ((k : Int)).toNat = k := by omega
          obtain ⟨y, hy⟩ : ∃ y, G[k] = y := ⟨_, rfl⟩
          have hry : Row (u8s y.1) 32 := Row.u32 y
          have Hym : Hid (y ∈ G) := Lib.hid (by rw [← hy]; exact List.getElem_mem _)
          obtain ⟨bG, oG, rfl, _⟩ := (h.sl A2 G.length c2).pos (by omega)
          have hcG : ∀ {w}, Sl w (some ⟨bG, oG, none⟩) G.length c2 32 (G.flatMap idc) → Cells w bG (oG + k * 32) (u8s y.1) := fun hs => by rw [← hy]; exact hs.elemAt idc_length hkG (by omega)
          clear hy
          go_wp2_with (first
            | (refine wl_at 44 rfl ?_; refine wl_reads rfl (ex_load_at _ _ rfl bG (oG + k * 32) rfl (u8s y.1) (by rw [u8s_length, y.2]) (hcG (h.sl (some ⟨bG, oG, none⟩) G.length c2))) ?_; try simp only [Act.put, List.setIfInBounds_toArray, List.set_cons_zero, List.set_cons_succ])
            | (refine wl_at 8 rfl ?_; refine wl_runs rfl (ex_alloc h 33 rfl) ?_; clear h; rintro _ w ⟨g8, rfl, h⟩; try simp only [Act.put, List.setIfInBounds_toArray, List.set_cons_zero, List.set_cons_succ])
            | (refine wl_none rfl ?_; refine wl_runs rfl (ex_store h _ _ _ rfl _ _ rfl (u8s y.1) rfl) ?_; clear h; rintro _ w ⟨rfl, h⟩; try simp only [Act.put, List.setIfInBounds_toArray, List.set_cons_zero, List.set_cons_succ]))
          -- no root is
          go_loopw [47] (fun iv wr => ∃ q : Nat, iv = .int .i64 (q : Int) ∧ q ≤ roots.length ∧ St (fun _ => False) w0 wr (eBlk g8 33 (u8s y.1) :: eOwn 44 34 A1 kps.length c1 (kps.flatMap obc) :: eLnk kps :: eOwn 33 32 (some ⟨bG, oG, none⟩) G.length c2 (G.flatMap idc) :: eObs obc A ps.length c ps :: eSl B roots.length d 32 (roots.flatMap idc) :: [])) (fun iv _ => roots.length - (intOf iv).toNat)
          case atStart => exact ⟨0, rfl, Nat.zero_le _, h.to⟩
          case round =>
            clear h
            obtain ⟨q, rfl, hq, h⟩ := hrel
            by_cases hqr : q < roots.length
            · have f3 : (q : Int) < (roots.length : Int) := by omega
              have t2 : ((q : Int)).toNat = q := by omega
              obtain ⟨r, hr2⟩ : ∃ r, roots[q] = r := ⟨_, rfl⟩
              have hrr : Row (u8s r.1) 32 := Row.u32 r
              obtain ⟨bR, oR, rfl, _⟩ := (h.sl B roots.length d).pos (by omega)
              have hcR : ∀ {w}, Sl w (some ⟨bR, oR, none⟩) roots.length d 32 (roots.flatMap idc) → Cells w bR (oR + q * 32) (u8s r.1) := fun hs => by rw [← hr2]; exact hs.elemAt idc_length hqr (by omega)
              have hne : (y.1 == r.1) = false := by
                rw [beq_eq_false_iff_ne]
                intro e
                exact Hroot.out y Hym.out (by rw [Subtype.ext e, ← hr2]; exact List.getElem_mem _)
              clear hr2
              go_wp2_with (first
                | (refine wl_at 50 rfl ?_; refine wl_reads rfl (ex_load_at _ _ rfl bR (oR + q * 32) rfl (u8s r.1) (by rw [u8s_length, r.2]) (hcR (h.sl (some ⟨bR, oR, none⟩) roots.length d))) ?_; try simp only [Act.put, List.setIfInBounds_toArray, List.set_cons_zero, List.set_cons_succ])
                | (refine wl_at 10 rfl ?_; refine wl_runs rfl (ex_alloc h 33 rfl) ?_; clear h; rintro _ w ⟨g10, rfl, h⟩; try simp only [Act.put, List.setIfInBounds_toArray, List.set_cons_zero, List.set_cons_succ])
                | (refine wl_none rfl ?_; refine wl_runs rfl (ex_store h _ _ _ rfl _ _ rfl (u8s r.1) rfl) ?_; clear h; rintro _ w ⟨rfl, h⟩; try simp only [Act.put, List.setIfInBounds_toArray, List.set_cons_zero, List.set_cons_succ])
                | (refine wl_at 51 rfl ?_; refine wl_reads rfl (ex_loadv h _ _ rfl _ _ rfl) ?_; try simp only [Act.put, List.setIfInBounds_toArray, List.set_cons_zero, List.set_cons_succ])
                | (refine wl_at 52 rfl ?_; refine wl_reads rfl (ex_loadv h _ _ rfl _ _ rfl) ?_; try simp only [Act.put, List.setIfInBounds_toArray, List.set_cons_zero, List.set_cons_succ])
                | (refine wl_at 53 rfl ?_; refine wl_reads rfl (ex_eq _ _ _ _ rfl y.1 r.1 rfl rfl y.2 r.2 false hne) ?_; try simp only [Act.put, List.setIfInBounds_toArray, List.set_cons_zero, List.set_cons_succ]))
              refine ⟨⟨q + 1, by push_cast; rfl, by omega, h.to⟩, ?_⟩
              simp only [intOf]
              omega
            · obtain rfl : q = roots.length := by omega
              have hqq : ¬ ((roots.length : Int) < (roots.length : Int)) := by omega
              clear hqr
              go_wp2
              -- no kept object links to it
              go_loopw [57] (fun iv wr => ∃ i : Nat, iv = .int .i64 (i : Int) ∧ i ≤ kps.length ∧ St (fun _ => False) w0 wr (eBlk g8 33 (u8s y.1) :: eOwn 44 34 A1 kps.length c1 (kps.flatMap obc) :: eLnk kps :: eOwn 33 32 (some ⟨bG, oG, none⟩) G.length c2 (G.flatMap idc) :: eObs obc A ps.length c ps :: eSl B roots.length d 32 (roots.flatMap idc) :: [])) (fun iv _ => kps.length - (intOf iv).toNat)
              case atStart => exact ⟨0, rfl, Nat.zero_le _, h⟩
              case round =>
                clear h
                obtain ⟨i, rfl, hi, h⟩ := hrel
                by_cases hik : i < kps.length
                · have f3 : (i : Int) < (kps.length : Int) := by omega
                  have t2 : ((i : Int)).toNat = i := by omega
                  have f4 : (i : Int) ≤ (c1 : Int) := by omega
                  obtain ⟨o, ho⟩ : ∃ o, kps[i] = o := ⟨_, rfl⟩
                  have hom : o ∈ kps := by rw [← ho]; exact List.getElem_mem _
                  obtain ⟨bK, oK, rfl, _⟩ := (h.obsAt obc A1 kps.length c1).1.pos (by omega)
                  have hcK : ∀ {w}, Sl w (some ⟨bK, oK, none⟩) kps.length c1 34 (kps.flatMap obc) → Cells w bK (oK + i * 34) (obc o) := fun hs => by rw [← ho]; exact hs.elemAt obc_length hik (by omega)
                  have hlx : ∀ {w}, (∀ x ∈ (eLnk kps :: []), x.holds w) → Sl w o.A o.n o.c 32 (o.links.flatMap idc) := fun hw => (hw (eLnk kps) (by simp) : LinksIs _ kps) o hom
                  have hon := (h.obsAt obc (some ⟨bK, oK, none⟩) kps.length c1).2.n_eq hom
                  have holen := Hkls.out o hom
                  have Hlo : Hid ((∀ j (hj : j < i), (kps[j]'(Nat.lt_trans hj hik)).id ≠ o.id) → y ∉ o.links) := Lib.hid (fun hh => by
                    have := Hlink.out i hik (fun j hj => by rw [ho]; exact hh j hj) y Hym.out
                    rwa [ho] at this)
                  have Hom := Lib.hid hom
                  clear ho hlx
                  obtain ⟨oA, on, oc, oi, ol, ox⟩ := o
                  simp only at hon holen Hlo
                  have hro : Row (u8s oi.1) 32 := Row.u32 oi
                  obtain rfl : on = ol.length := hon
                  have hckz : (c1 : Int) ≠ 0 := by omega
                  go_wp2_with (first
                    | (refine wl_at 61 rfl ?_; refine wl_reads rfl (ex_load_at _ _ rfl bK (oK + i * 34) rfl (c_api_Object (u8s oi.1) (.slice oA ol.length oc) (.int .i64 ox)) (obc_length ⟨oA, ol.length, oc, oi, ol, ox⟩) (hcK (h.obsAt obc (some ⟨bK, oK, none⟩) kps.length c1).1)) ?_; try simp only [Act.put, List.setIfInBounds_toArray, List.set_cons_zero, List.set_cons_succ])
                    | (refine wl_at 12 rfl ?_; refine wl_runs rfl (ex_alloc h 44 rfl) ?_; clear h; rintro _ w ⟨g12, rfl, h⟩; try simp only [Act.put, List.setIfInBounds_toArray, List.set_cons_zero, List.set_cons_succ])
                    | (refine wl_none rfl ?_; refine wl_runs rfl (ex_store h _ _ _ rfl _ _ rfl (c_api_Object (u8s oi.1) (.slice oA ol.length oc) (.int .i64 ox)) rfl) ?_; clear h; rintro _ w ⟨rfl, h⟩; try simp only [Act.put, List.setIfInBounds_toArray, List.set_cons_zero, List.set_cons_succ]))
                  go_loopw [13, 66] (fun bv iv wr => ∃ (q : Nat) (b : Bool), bv = .bool b ∧ iv = .int .i64 (q : Int) ∧ q ≤ i ∧ Hid (b = true → ∀ j p, j < q → kps[j]? = some p → p.id ≠ oi) ∧ St (fun _ => False) w0 wr (eBlk g12 44 (c_api_Object (u8s oi.1) (.slice oA ol.length oc) (.int .i64 ox)) :: eBlk g8 33 (u8s y.1) :: eOwn 44 34 (some ⟨bK, oK, none⟩) kps.length c1 (kps.flatMap obc) :: eLnk kps :: eOwn 33 32 (some ⟨bG, oG, none⟩) G.length c2 (G.flatMap idc) :: eObs obc A ps.length c ps :: eSl B roots.length d 32 (roots.flatMap idc) :: [])) (fun _ iv _ => i - (intOf iv).toNat)
                  case atStart => exact ⟨0, true, rfl, rfl, Nat.zero_le _, Lib.hid (fun _ j p hj => by omega), h.to⟩
                  case round =>
                    clear h
                    obtain ⟨q, b, rfl, rfl, hq, Hb, h⟩ := hrel
                    by_cases hqi : q < i
                    · have f5 : (q : Int) < (i : Int) := by omega
                      have t3 : ((q : Int)).toNat = q := by omega
                      have hqk : q < kps.length := by omega
                      obtain ⟨p, hp⟩ : ∃ p, kps[q] = p := ⟨_, rfl⟩
                      have hcP : ∀ {w}, Sl w (some ⟨bK, oK, none⟩) kps.length c1 34 (kps.flatMap obc) → Cells w bK (oK + q * 34) (obc p) := fun hs => by rw [← hp]; exact hs.elemAt obc_length hqk (by omega)
                      have Hpq : Hid (kps[q]? = some p) := Lib.hid (by rw [List.getElem?_eq_getElem hqk, hp])
                      clear hp
                      obtain ⟨qA, qn, qc, qi, ql, qx⟩ := p
                      have hrq : Row (u8s qi.1) 32 := Row.u32 qi
                      cases b with
                      | false =>
                        go_wp2_with (first
                          | (refine wl_at 69 rfl ?_; refine wl_reads rfl (ex_load_at _ _ rfl bK (oK + q * 34) rfl ((c_api_Object (u8s qi.1) (.slice qA qn qc) (.int .i64 qx))) (obc_length ⟨qA, qn, qc, qi, ql, qx⟩) (hcP (h.obsAt obc (some ⟨bK, oK, none⟩) kps.length c1).1)) ?_; try simp only [Act.put, List.setIfInBounds_toArray, List.set_cons_zero, List.set_cons_succ])
                          | (refine wl_at 15 rfl ?_; refine wl_runs rfl (ex_alloc h 44 rfl) ?_; clear h; rintro _ w ⟨g15, rfl, h⟩; try simp only [Act.put, List.setIfInBounds_toArray, List.set_cons_zero, List.set_cons_succ])
                          | (refine wl_none rfl ?_; refine wl_runs rfl (ex_store h _ _ _ rfl _ _ rfl ((c_api_Object (u8s qi.1) (.slice qA qn qc) (.int .i64 qx))) rfl) ?_; clear h; rintro _ w ⟨rfl, h⟩; try simp only [Act.put, List.setIfInBounds_toArray, List.set_cons_zero, List.set_cons_succ]))
                        refine ⟨⟨q + 1, false, rfl, by push_cast; rfl, by omega, Lib.hid (fun e => by cases e), h.to⟩, ?_⟩
                        simp only [intOf]
                        omega
                      | true =>
                        obtain ⟨D, hD⟩ : ∃ D, (!(qi.1 == oi.1)) = D := ⟨_, rfl⟩
                        have Hb2 : Hid (D = true → ∀ j p, j < q + 1 → kps[j]? = some p → p.id ≠ oi) := Lib.hid (fun e j p hj hp => by
                          rcases Nat.lt_succ_iff_lt_or_eq.1 hj with h3 | rfl
                          · exact Hb.out rfl j p h3 hp
                          · rw [Hpq.out] at hp
                            cases hp
                            rw [← hD] at e
                            simp only [Bool.not_eq_true', beq_eq_false_iff_ne] at e
                            exact fun e2 => e (by rw [show qi = oi from e2]))
                        go_wp2_with (first
                          | (refine wl_at 69 rfl ?_; refine wl_reads rfl (ex_load_at _ _ rfl bK (oK + q * 34) rfl ((c_api_Object (u8s qi.1) (.slice qA qn qc) (.int .i64 qx))) (obc_length ⟨qA, qn, qc, qi, ql, qx⟩) (hcP (h.obsAt obc (some ⟨bK, oK, none⟩) kps.length c1).1)) ?_; try simp only [Act.put, List.setIfInBounds_toArray, List.set_cons_zero, List.set_cons_succ])
                          | (refine wl_at 15 rfl ?_; refine wl_runs rfl (ex_alloc h 44 rfl) ?_; clear h; rintro _ w ⟨g15, rfl, h⟩; try simp only [Act.put, List.setIfInBounds_toArray, List.set_cons_zero, List.set_cons_succ])
                          | (refine wl_none rfl ?_; refine wl_runs rfl (ex_store h _ _ _ rfl _ _ rfl ((c_api_Object (u8s qi.1) (.slice qA qn qc) (.int .i64 qx))) rfl) ?_; clear h; rintro _ w ⟨rfl, h⟩; try simp only [Act.put, List.setIfInBounds_toArray, List.set_cons_zero, List.set_cons_succ])
                          | (refine wl_at 73 rfl ?_; refine wl_reads rfl (ex_loadv h _ _ rfl _ _ rfl) ?_; try simp only [Act.put, List.setIfInBounds_toArray, List.set_cons_zero, List.set_cons_succ])
                          | (refine wl_at 75 rfl ?_; refine wl_reads rfl (ex_loadv h _ _ rfl _ _ rfl) ?_; try simp only [Act.put, List.setIfInBounds_toArray, List.set_cons_zero, List.set_cons_succ])
                          | (refine wl_at 76 rfl ?_; refine wl_reads rfl (ex_neq _ _ _ _ rfl qi.1 oi.1 rfl rfl qi.2 oi.2 D hD) ?_; try simp only [Act.put, List.setIfInBounds_toArray, List.set_cons_zero, List.set_cons_succ]))
                        refine ⟨⟨q + 1, D, rfl, by push_cast; rfl, by omega, Hb2, h.to⟩, ?_⟩
                        simp only [intOf]
                        omega
                    · obtain rfl : q = i := by omega
                      have hqq2 : ¬ ((q : Int) < (q : Int)) := by omega
                      have Hbl : Hid (b = true → y ∉ ol) := Lib.hid (fun e => Hlo.out (fun j hj => Hb.out e j _ hj (List.getElem?_eq_getElem _)))
                      clear hqi Hb
                      go_wp2_with (first
                        | (refine wl_at 80 rfl ?_; refine wl_reads rfl (ex_loadv h _ _ rfl _ _ rfl) ?_; try simp only [Act.put, List.setIfInBounds_toArray, List.set_cons_zero, List.set_cons_succ]))
                      go_loopw [82] (fun iv wr => ∃ u : Nat, iv = .int .i64 (u : Int) ∧ u ≤ ol.length ∧ St (fun _ => False) w0 wr (eBlk g12 44 (c_api_Object (u8s oi.1) (.slice oA ol.length oc) (.int .i64 ox)) :: eBlk g8 33 (u8s y.1) :: eOwn 44 34 (some ⟨bK, oK, none⟩) kps.length c1 (kps.flatMap obc) :: eLnk kps :: eOwn 33 32 (some ⟨bG, oG, none⟩) G.length c2 (G.flatMap idc) :: eObs obc A ps.length c ps :: eSl B roots.length d 32 (roots.flatMap idc) :: [])) (fun iv _ => ol.length - (intOf iv).toNat)
                      case atStart => exact ⟨0, rfl, Nat.zero_le _, h⟩
                      case round =>
                        clear h
                        obtain ⟨u, rfl, hu, h⟩ := hrel
                        by_cases huo : u < ol.length
                        · have f6 : (u : Int) < (ol.length : Int) := by omega
                          have t4 : ((u : Int)).toNat = u := by omega
                          obtain ⟨x, hx⟩ : ∃ x, ol[u] = x := ⟨_, rfl⟩
                          have hrx : Row (u8s x.1) 32 := Row.u32 x
                          have Hxm : Hid (x ∈ ol) := Lib.hid (by rw [← hx]; exact List.getElem_mem _)
                          obtain ⟨bX, oX, rfl, _⟩ := ((h.obsAt obc (some ⟨bK, oK, none⟩) kps.length c1).2 _ Hom.out).pos (by show 0 < ol.length * 32; omega)
                          have hcX : ∀ {w}, Sl w (some ⟨bX, oX, none⟩) ol.length oc 32 (ol.flatMap idc) → Cells w bX (oX + u * 32) (u8s x.1) := fun hs => by rw [← hx]; exact hs.elemAt idc_length huo (by omega)
                          clear hx
                          cases b with
                          | false =>
                            go_wp2_with (first
                              | (refine wl_at 85 rfl ?_; refine wl_reads rfl (ex_load_at _ _ rfl bX (oX + u * 32) rfl (u8s x.1) (by rw [u8s_length, x.2]) (hcX ((h.obsAt obc (some ⟨bK, oK, none⟩) kps.length c1).2 _ Hom.out))) ?_; try simp only [Act.put, List.setIfInBounds_toArray, List.set_cons_zero, List.set_cons_succ])
                              | (refine wl_at 17 rfl ?_; refine wl_runs rfl (ex_alloc h 33 rfl) ?_; clear h; rintro _ w ⟨g17, rfl, h⟩; try simp only [Act.put, List.setIfInBounds_toArray, List.set_cons_zero, List.set_cons_succ])
                              | (refine wl_none rfl ?_; refine wl_runs rfl (ex_store h _ _ _ rfl _ _ rfl (u8s x.1) rfl) ?_; clear h; rintro _ w ⟨rfl, h⟩; try simp only [Act.put, List.setIfInBounds_toArray, List.set_cons_zero, List.set_cons_succ]))
                            refine ⟨⟨u + 1, by push_cast; rfl, by omega, h.to⟩, ?_⟩
                            simp only [intOf]
                            omega
                          | true =>
                            have hne : (x.1 == y.1) = false := by
                              rw [beq_eq_false_iff_ne]
                              intro e
                              exact Hbl.out rfl (by rw [← Subtype.ext e]; exact Hxm.out)
                            go_wp2_with (first
                              | (refine wl_at 85 rfl ?_; refine wl_reads rfl (ex_load_at _ _ rfl bX (oX + u * 32) rfl (u8s x.1) (by rw [u8s_length, x.2]) (hcX ((h.obsAt obc (some ⟨bK, oK, none⟩) kps.length c1).2 _ Hom.out))) ?_; try simp only [Act.put, List.setIfInBounds_toArray, List.set_cons_zero, List.set_cons_succ])
                              | (refine wl_at 17 rfl ?_; refine wl_runs rfl (ex_alloc h 33 rfl) ?_; clear h; rintro _ w ⟨g17, rfl, h⟩; try simp only [Act.put, List.setIfInBounds_toArray, List.set_cons_zero, List.set_cons_succ])
                              | (refine wl_none rfl ?_; refine wl_runs rfl (ex_store h _ _ _ rfl _ _ rfl (u8s x.1) rfl) ?_; clear h; rintro _ w ⟨rfl, h⟩; try simp only [Act.put, List.setIfInBounds_toArray, List.set_cons_zero, List.set_cons_succ])
                              | (refine wl_at 88 rfl ?_; refine wl_reads rfl (ex_loadv h _ _ rfl _ _ rfl) ?_; try simp only [Act.put, List.setIfInBounds_toArray, List.set_cons_zero, List.set_cons_succ])
                              | (refine wl_at 89 rfl ?_; refine wl_reads rfl (ex_loadv h _ _ rfl _ _ rfl) ?_; try simp only [Act.put, List.setIfInBounds_toArray, List.set_cons_zero, List.set_cons_succ])
                              | (refine wl_at 90 rfl ?_; refine wl_reads rfl (ex_eq _ _ _ _ rfl x.1 y.1 rfl rfl x.2 y.2 false hne) ?_; try simp only [Act.put, List.setIfInBounds_toArray, List.set_cons_zero, List.set_cons_succ]))
                            refine ⟨⟨u + 1, by push_cast; rfl, by omega, h.to⟩, ?_⟩
                            simp only [intOf]
                            omega
                        · obtain rfl : u = ol.length := by omega
                          have huu : ¬ ((ol.length : Int) < (ol.length : Int)) := by omega
                          clear huo
                          go_wp2
                          refine ⟨⟨q + 1, by push_cast; rfl, by omega, h.to⟩, ?_⟩
                          simp only [intOf]
                          omega
                · obtain rfl : i = kps.length := by omega
                  have hii : ¬ ((kps.length : Int) < (kps.length : Int)) := by omega
                  clear hik
                  go_wp2
                  refine ⟨⟨k + 1, by push_cast; rfl, by omega, h.to⟩, ?_⟩
                  simp only [intOf]
                  omega
        · obtain rfl : k = G.length := by omega
          have hkk : ¬ ((G.length : Int) < (G.length : Int)) := by omega
          clear hkG
          go_wp2
          -- all objects counted
          go_loopw [18, 97] (fun nv iv wr => ∃ k : Nat, nv = .int .i64 ((((obsM (ps.take k)).filter fun o => decide (o.id ∈ G)).length : Nat) : Int) ∧ iv = .int .i64 (k : Int) ∧ k ≤ ps.length ∧ St (fun _ => False) w0 wr (eOwn 44 34 A1 kps.length c1 (kps.flatMap obc) :: eLnk kps :: eOwn 33 32 A2 G.length c2 (G.flatMap idc) :: eObs obc A ps.length c ps :: eSl B roots.length d 32 (roots.flatMap idc) :: [])) (fun _ iv _ => ps.length - (intOf iv).toNat)
          case atStart => exact ⟨0, by simp, rfl, Nat.zero_le _, h⟩
          case round =>
            clear h
            obtain ⟨k, rfl, rfl, hk, h⟩ := hrel
            obtain ⟨N, hN⟩ : ∃ N, ((obsM (ps.take k)).filter fun o => decide (o.id ∈ G)).length = N := ⟨_, rfl⟩
            have hNk : N ≤ 30 := by
              rw [← hN]
              refine Nat.le_trans (List.length_filter_le _ _) ?_
              simp only [obsM, List.length_map, List.length_take]
              omega
            by_cases hkl2 : k < ps.length
            · have f2 : (k : Int) < (ps.length : Int) := by omega
              have t1 : ((k : Int)).toNat = k := by omega
              obtain ⟨o, ho⟩ : ∃ o, ps[k] = o := ⟨_, rfl⟩
              have hnx : ((obsM (ps.take (k + 1))).filter fun o => decide (o.id ∈ G)).length = N + cnt G o.id := by
                rw [List.take_succ_eq_append_getElem hkl2, ho, obs_snoc, List.filter_append, List.length_append, hN]
                congr 1
                unfold cnt
                by_cases hm : o.id ∈ G
                · simp [obOf, hm]
                · simp [obOf, hm]
              have Hnx := Lib.hid hnx
              obtain ⟨bP, oP, rfl, _⟩ := (h.obsAt obc A ps.length c).1.pos (by omega)
              have hcP : ∀ {w}, Sl w (some ⟨bP, oP, none⟩) ps.length c 34 (ps.flatMap obc) → Cells w bP (oP + k * 34) (obc o) := fun hs => by rw [← ho]; exact hs.elemAt obc_length hkl2 (by omega)
              rw [hN]
              clear hN hnx ho
              obtain ⟨oA, on, oc, oi, ol, ox⟩ := o
              simp only at Hnx
              have hro : Row (u8s oi.1) 32 := Row.u32 oi
              go_wp2_with (first
                | (refine wl_at 100 rfl ?_; refine wl_reads rfl (ex_load_at _ _ rfl bP (oP + k * 34) rfl ((c_api_Object (u8s oi.1) (.slice oA on oc) (.int .i64 ox))) (obc_length ⟨oA, on, oc, oi, ol, ox⟩) (hcP (h.obsAt obc (some ⟨bP, oP, none⟩) ps.length c).1)) ?_; try simp only [Act.put, List.setIfInBounds_toArray, List.set_cons_zero, List.set_cons_succ])
                | (refine wl_at 20 rfl ?_; refine wl_runs rfl (ex_alloc h 44 rfl) ?_; clear h; rintro _ w ⟨g20, rfl, h⟩; try simp only [Act.put, List.setIfInBounds_toArray, List.set_cons_zero, List.set_cons_succ])
                | (refine wl_none rfl ?_; refine wl_runs rfl (ex_store h _ _ _ rfl _ _ rfl ((c_api_Object (u8s oi.1) (.slice oA on oc) (.int .i64 ox))) rfl) ?_; clear h; rintro _ w ⟨rfl, h⟩; try simp only [Act.put, List.setIfInBounds_toArray, List.set_cons_zero, List.set_cons_succ]))
              go_loopw [18, 103] (fun nv iv wr => ∃ q : Nat, nv = .int .i64 ((N + cnt (G.take q) oi : Nat) : Int) ∧ iv = .int .i64 (q : Int) ∧ q ≤ G.length ∧ St (fun _ => False) w0 wr (eBlk g20 44 ((c_api_Object (u8s oi.1) (.slice oA on oc) (.int .i64 ox))) :: eOwn 44 34 A1 kps.length c1 (kps.flatMap obc) :: eLnk kps :: eOwn 33 32 A2 G.length c2 (G.flatMap idc) :: eObs obc (some ⟨bP, oP, none⟩) ps.length c ps :: eSl B roots.length d 32 (roots.flatMap idc) :: [])) (fun _ iv _ => G.length - (intOf iv).toNat)
              case atStart => exact ⟨0, by simp [cnt], rfl, Nat.zero_le _, h.to⟩
              case round =>
                clear h
                obtain ⟨q, rfl, rfl, hq, h⟩ := hrel
                by_cases hqG : q < G.length
                · have f3 : (q : Int) < (G.length : Int) := by omega
                  have t2 : ((q : Int)).toNat = q := by omega
                  obtain ⟨y, hy⟩ : ∃ y, G[q] = y := ⟨_, rfl⟩
                  have hry : Row (u8s y.1) 32 := Row.u32 y
                  obtain ⟨bG, oG, rfl, _⟩ := (h.sl A2 G.length c2).pos (by omega)
                  have hcG : ∀ {w}, Sl w (some ⟨bG, oG, none⟩) G.length c2 32 (G.flatMap idc) → Cells w bG (oG + q * 32) (u8s y.1) := fun hs => by rw [← hy]; exact hs.elemAt idc_length hqG (by omega)
                  obtain ⟨D, hD⟩ : ∃ D, (oi.1 == y.1) = D := ⟨_, rfl⟩
                  have hDi := id_beq D hD
                  cases D with
                  | true =>
                    have hoy : oi = y := hDi.1 rfl
                    have e0 : cnt (G.take q) oi = 0 := by
                      rw [cnt, if_neg]
                      rw [hoy, ← hy]
                      exact nodup_take Hnd.out hqG
                    have e1 : cnt (G.take (q + 1)) oi = 1 := by
                      rw [cnt, if_pos]
                      rw [take_mem_step hqG]
                      exact .inr (by rw [hoy, hy])
                    have E1 := Lib.hid e1
                    rw [e0, Nat.add_zero]
                    clear hy hDi hoy e0 e1
                    go_wp2_with (first
                      | (refine wl_at 106 rfl ?_; refine wl_reads rfl (ex_load_at _ _ rfl bG (oG + q * 32) rfl (u8s y.1) (by rw [u8s_length, y.2]) (hcG (h.sl (some ⟨bG, oG, none⟩) G.length c2))) ?_; try simp only [Act.put, List.setIfInBounds_toArray, List.set_cons_zero, List.set_cons_succ])
                      | (refine wl_at 22 rfl ?_; refine wl_runs rfl (ex_alloc h 33 rfl) ?_; clear h; rintro _ w ⟨g22, rfl, h⟩; try simp only [Act.put, List.setIfInBounds_toArray, List.set_cons_zero, List.set_cons_succ])
                      | (refine wl_none rfl ?_; refine wl_runs rfl (ex_store h _ _ _ rfl _ _ rfl (u8s y.1) rfl) ?_; clear h; rintro _ w ⟨rfl, h⟩; try simp only [Act.put, List.setIfInBounds_toArray, List.set_cons_zero, List.set_cons_succ])
                      | (refine wl_at 108 rfl ?_; refine wl_reads rfl (ex_loadv h _ _ rfl _ _ rfl) ?_; try simp only [Act.put, List.setIfInBounds_toArray, List.set_cons_zero, List.set_cons_succ])
                      | (refine wl_at 109 rfl ?_; refine wl_reads rfl (ex_loadv h _ _ rfl _ _ rfl) ?_; try simp only [Act.put, List.setIfInBounds_toArray, List.set_cons_zero, List.set_cons_succ])
                      | (refine wl_at 110 rfl ?_; refine wl_reads rfl (ex_eq _ _ _ _ rfl oi.1 y.1 rfl rfl oi.2 y.2 true hD) ?_; try simp only [Act.put, List.setIfInBounds_toArray, List.set_cons_zero, List.set_cons_succ]))
                    refine ⟨⟨q + 1, by rw [E1.out]; push_cast; rfl, by push_cast; rfl, by omega, h.to⟩, ?_⟩
                    simp only [intOf]
                    omega
                  | false =>
                    have hoy : oi ≠ y := fun e => by have := hDi.2 e; cases this
                    have e1 : cnt (G.take (q + 1)) oi = cnt (G.take q) oi := by
                      unfold cnt
                      have : oi ∈ G.take (q + 1) ↔ oi ∈ G.take q := by
                        rw [take_mem_step hqG, hy]
                        exact ⟨fun h => h.resolve_right hoy, .inl⟩
                      by_cases hm : oi ∈ G.take q
                      · rw [if_pos hm, if_pos (this.2 hm)]
                      · rw [if_neg hm, if_neg (fun e => hm (this.1 e))]
                    have E1 := Lib.hid e1
                    clear hy hDi hoy e1
                    go_wp2_with (first
                      | (refine wl_at 106 rfl ?_; refine wl_reads rfl (ex_load_at _ _ rfl bG (oG + q * 32) rfl (u8s y.1) (by rw [u8s_length, y.2]) (hcG (h.sl (some ⟨bG, oG, none⟩) G.length c2))) ?_; try simp only [Act.put, List.setIfInBounds_toArray, List.set_cons_zero, List.set_cons_succ])
                      | (refine wl_at 22 rfl ?_; refine wl_runs rfl (ex_alloc h 33 rfl) ?_; clear h; rintro _ w ⟨g22, rfl, h⟩; try simp only [Act.put, List.setIfInBounds_toArray, List.set_cons_zero, List.set_cons_succ])
                      | (refine wl_none rfl ?_; refine wl_runs rfl (ex_store h _ _ _ rfl _ _ rfl (u8s y.1) rfl) ?_; clear h; rintro _ w ⟨rfl, h⟩; try simp only [Act.put, List.setIfInBounds_toArray, List.set_cons_zero, List.set_cons_succ])
                      | (refine wl_at 108 rfl ?_; refine wl_reads rfl (ex_loadv h _ _ rfl _ _ rfl) ?_; try simp only [Act.put, List.setIfInBounds_toArray, List.set_cons_zero, List.set_cons_succ])
                      | (refine wl_at 109 rfl ?_; refine wl_reads rfl (ex_loadv h _ _ rfl _ _ rfl) ?_; try simp only [Act.put, List.setIfInBounds_toArray, List.set_cons_zero, List.set_cons_succ])
                      | (refine wl_at 110 rfl ?_; refine wl_reads rfl (ex_eq _ _ _ _ rfl oi.1 y.1 rfl rfl oi.2 y.2 false hD) ?_; try simp only [Act.put, List.setIfInBounds_toArray, List.set_cons_zero, List.set_cons_succ]))
                    refine ⟨⟨q + 1, by rw [E1.out], by push_cast; rfl, by omega, h.to⟩, ?_⟩
                    simp only [intOf]
                    omega
                · obtain rfl : q = G.length := by omega
                  have hqq : ¬ ((G.length : Int) < (G.length : Int)) := by omega
                  clear hqG
                  go_wp2
                  refine ⟨⟨k + 1, by rw [Hnx.out, List.take_length], by push_cast; rfl, by omega, h.to⟩, ?_⟩
                  simp only [intOf]
                  omega
            · obtain rfl : k = ps.length := by omega
              have hkk2 : ¬ ((ps.length : Int) < (ps.length : Int)) := by omega
              have hsum : N + kps.length = ps.length := by
                have h1 := Hcount.out
                have h2 := congrArg List.length Hk1.out
                have h3 : (obsM kps).length = kps.length := by simp
                have h4 : (obsM ps).length = ps.length := by simp
                rw [List.take_length] at hN
                omega
              have hw : wrap64 ((N : Int) + (kps.length : Int)) = (ps.length : Int) := by
                have : (N : Int) + (kps.length : Int) = (ps.length : Int) := by omega
                rw [this]
                unfold wrap64
                omega
              have heq : ((N : Int) + (kps.length : Int) == (ps.length : Int)) = true := by
                have : (N : Int) + (kps.length : Int) = (ps.length : Int) := by omega
                rw [this]
                simp
              rw [hN]
              clear hkl2 hN hsum
              go_wp2
              go_ret
              exact ⟨rfl, h.step.below⟩
end Go.Proofs.Ytionnlckjjojnaa
