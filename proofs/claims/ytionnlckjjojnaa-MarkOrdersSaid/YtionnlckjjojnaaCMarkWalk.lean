/- mark.Walk: what is reached, told. -/
import Derived.Test.YtionnlckjjojnaaCMarkIx
import Derived.Test.YtionnlckjjojnaaCClone
import Derived.WalkMore
import Derived.Laws.Cover3
namespace Go.Proofs.Ytionnlckjjojnaa
open Go.RowKit Go.Shelf Go.Maps
set_option linter.unusedVariables false
set_option linter.unusedSimpArgs false

theorem reads_cons {x : Ent} {L : List Ent} {i : Nat} : reads (x :: L) i ↔ x.rd i ∨ reads L i := by
  constructor
  · rintro ⟨y, hy, hi⟩
    rcases List.mem_cons.1 hy with rfl | hy
    · exact .inl hi
    · exact .inr ⟨y, hy, hi⟩
  · rintro (h | ⟨y, hy, hi⟩)
    · exact ⟨_, List.mem_cons_self, h⟩
    · exact ⟨y, List.mem_cons_of_mem _ hy, hi⟩
theorem rd_own (e : TypeId) (sz : Nat) (A : Option Addr) (n c : Nat) (xs : List Value) (i : Nat) : (eOwn e sz A n c xs).rd i ↔ False := Iff.rfl
theorem rd_blk (g : Nat) (t : TypeId) (xs : List Value) (i : Nat) : (eBlk g t xs).rd i ↔ False := Iff.rfl
theorem rd_map {α β : Type} (b : Nat) (kv : α → Value) (vv : β → Value) (m : List (α × β)) (i : Nat) : (eMap b kv vv m).rd i ↔ False := Iff.rfl
theorem St.readsLtM {S : Nat → Prop} {w0 w : World} {L : List Ent} (h : St S w0 w L) {i : Nat} (hi : reads L i) : i < w.heap.size := by
  obtain ⟨x, hx, hi⟩ := hi
  exact x.lt (h.holds x hx) i (.inr hi)
/-- The body's state behind a step of the iterator's. -/
def JMoves {α : Type} (J : List α → (Nat → Prop) → (Nat → Prop) → World → Prop) : Prop := ∀ pre O R O' R' W0 W1, J pre O R W0 → Step O W0 W1 → (∀ i, O' i → (O i ∨ W0.heap.size ≤ i) ∧ i < W1.heap.size) → (∀ i, R' i → (O i ∨ R i ∨ W0.heap.size ≤ i) ∧ i < W1.heap.size) → J pre O' R' W1
theorem JMoves.to {α : Type} {J : List α → (Nat → Prop) → (Nat → Prop) → World → Prop} (hJ : JMoves J) {L L' : List Ent} {wr w : World} {pre : List α} (h : St (owns L) wr w L') (j : J pre (owns L) (reads L) wr) (hr : ∀ i, reads L' i → reads L i) : J pre (owns L') (reads L') w :=
  hJ pre _ _ _ _ wr w j h.step (fun i hi => ⟨(h.owns_lt hi).2, (h.owns_lt hi).1⟩) (fun i hi => ⟨.inr (.inl (hr i hi)), h.readsLtM hi⟩)

abbrev WkL (gl gr : Nat) (A : Option Addr) (c : Nat) (ps : List ObAt) (B : Option Addr) (d : Nat) (roots : List Id) : List Ent :=
  [eBlk gl 22 [.slice A ps.length c], eBlk gr 23 [.slice B roots.length d], eObs obc A ps.length c ps, eSl B roots.length d 32 (roots.flatMap idc)]
set_option maxRecDepth 100000 in
theorem walk_make {S : Nat → Prop} {w0 w : World} {L : List Ent} {A B : Option Addr} {n c m d : Nat} (h : St S w0 w L) :
    Calls Try.prog 14 #[.slice A n c, .slice B m d] w fun e w' => ∃ gl gr, e = .returned (.func (.func 35) #[] #[.pointer (some ⟨gl, 0, none⟩), .pointer (some ⟨gr, 0, none⟩)]) ∧ St S w0 w' (eBlk gl 22 [.slice A n c] :: eBlk gr 23 [.slice B m d] :: L) := by
  go_enter Try.func14, Try.ntmps14
  go_wp2_with (first
    | (refine wl_at 2 rfl ?_; refine wl_runs rfl (ex_box1s h 22 _ rfl A n c rfl) ?_; clear h; rintro _ w ⟨gl, rfl, h⟩)
    | (refine wl_at 3 rfl ?_; refine wl_runs rfl (ex_box1s h 23 _ rfl B m d rfl) ?_; clear h; rintro _ w ⟨gr, rfl, h⟩))
  go_ret
  exact ⟨gl, gr, rfl, h.to⟩
theorem ids_one (l : List Id) : ∀ u ∈ l.flatMap idc, u.oneCell' = true := fun u hu => by
  obtain ⟨x, _, hx⟩ := List.mem_flatMap.1 hu
  exact u8s_one _ u hx
/-- The map of what was met. -/
def MetIs (mm : List (Id × Bool)) (out : List (Nat × Id)) : Prop := ∀ x, mget mm x = if x ∈ out.map (·.2) then some true else none
theorem MetIs.next {mm : List (Id × Bool)} {out : List (Nat × Id)} (h : MetIs mm out) (d : Nat) (x : Id) : MetIs (mset mm x true) (out ++ [(d, x)]) := fun y => by
  rw [mget_set, h y]
  by_cases hy : y = x
  · simp [hy]
  · rw [if_neg hy]
    simp only [List.map_append, List.map_cons, List.map_nil, List.mem_append, List.mem_singleton, hy, or_false]
set_option maxRecDepth 100000 in
set_option maxHeartbeats 4000000 in
theorem walk_iters {gl gr : Nat} {A B : Option Addr} {c dr : Nat} {ps : List ObAt} {roots : List Id} (hl : ps.length ≤ 1000000) (hls : ∀ p ∈ ps, p.links.length ≤ 1000000) (hr : roots.length ≤ 1000000) :
    Iters Try.prog 35 #[.pointer (some ⟨gl, 0, none⟩), .pointer (some ⟨gr, 0, none⟩)] (fun x : Nat × Id => #[natI x.1, .agg (idc x.2).toArray]) (fun pre x _ _ _ => pre ++ [x] <+: walkM (obsM ps) roots)
      (fun pre stopped Lf => Lf = WkL gl gr A c ps B dr roots ∧ (stopped = false → pre = walkM (obsM ps) roots)) (WkL gl gr A c ps B dr roots) := by
  intro n l J Jx W hW hJ hJx hY h0
  replace hJ : JMoves J := hJ
  replace hJx : JMoves Jx := hJx
  refine callsIn_wide.2 ?_
  have hM : ∀ o ∈ obsM ps, o.links.length ≤ 1000000 := fun o ho => by
    obtain ⟨p, hp, rfl⟩ := List.mem_map.1 ho
    exact hls p hp
  have HM := Lib.hid hM
  have Hls := Lib.hid hls
  have hN : (obsM ps).length = ps.length := by simp
  have HN := Lib.hid hN
  clear hM hls hN
  go_enter Try.func35, Try.ntmps35
  have h := hW
  go_wp2_with (first
    | (go_at_call 36; refine (index_code (A := A) (c := c) (ps := ps) h hl).mono ?_; clear h; rintro e w ⟨ga, mi, rfl, hmi, h⟩; have Hmi := Lib.hid hmi; clear hmi)
    | (refine wl_at 15 rfl ?_; refine wl_runs rfl (ex_mmake h _ rfl idv boV) ?_; clear h; rintro _ w ⟨gm, rfl, h⟩)
    | (go_at_call 37; refine (clone_ids (A := B) (n := roots.length) (c := dr) (xs := roots) h (by omega)).mono ?_; clear h; rintro e w ⟨A1, c1, rfl, h⟩)
    | (refine wl_reads rfl (ex_loadv h _ _ rfl _ _ rfl) ?_))
  have hJ1 := hJ.to h h0 (fun i hi => by simpa [reads_cons, rd_own, rd_blk, rd_map] using hi)
  replace h := h.renew
  go_loopw [6, 7] (fun lv dv wr => ∃ (k d : Nat) (out : List (Nat × Id)) (lev : List Id) (AL : Option Addr) (cL : Nat) (mm : List (Id × Bool)), lv = .slice AL lev.length cL ∧ dv = .int .i64 (d : Int) ∧ k + d = ps.length + 1 ∧ Hid (WInv (obsM ps) k d out lev) ∧ Hid (walkF (obsM ps) k d out lev = walkM (obsM ps) roots) ∧ Hid (MetIs mm out) ∧ lev.length ≤ 1000000 * 1000000 ∧ out.length ≤ ps.length ∧
      St (owns (eOwn 33 32 AL lev.length cL (lev.flatMap idc) :: eMap gm idv boV mm :: eMap ga idv natI mi :: WkL gl gr A c ps B dr roots)) wr wr (eOwn 33 32 AL lev.length cL (lev.flatMap idc) :: eMap gm idv boV mm :: eMap ga idv natI mi :: WkL gl gr A c ps B dr roots) ∧
      J out (owns (eOwn 33 32 AL lev.length cL (lev.flatMap idc) :: eMap gm idv boV mm :: eMap ga idv natI mi :: WkL gl gr A c ps B dr roots)) (reads (eOwn 33 32 AL lev.length cL (lev.flatMap idc) :: eMap gm idv boV mm :: eMap ga idv natI mi :: WkL gl gr A c ps B dr roots)) wr) (fun _ dv _ => ps.length + 2 - (intOf dv).toNat)
  case atStart =>
    refine ⟨ps.length + 1, 0, [], roots, A1, c1, [], rfl, rfl, rfl, Lib.hid ?_, Lib.hid ?_, Lib.hid (fun x => by rw [mget_nil]; simp), by omega, by simp, h, hJ1⟩
    · rw [← HN.out]; exact WInv.init _ _
    · rw [← HN.out]; rfl
  case round =>
    clear h hJ1 h0 hW
    obtain ⟨k, d, out, lev, AL, cL, mm, rfl, rfl, hkd, Hw, Hrest, Hmet, hlev, hout, h, hj⟩ := hrel
    by_cases hz : lev = []
    · subst hz
      have Hfin : Hid (out = walkM (obsM ps) roots) := Lib.hid (by rw [← Hrest.out, walkF_nil])
      have f0 : ¬ (0 : Int) < (([] : List Id).length : Int) := by simp
      go_wp2
      go_end0
      have hj2 := hJ.to (L' := WkL gl gr A c ps B dr roots) h.to hj (fun i hi => by simpa [reads_cons, rd_own, rd_blk, rd_map] using hi)
      exact IterEnd.ends (pre := out) ⟨rfl, fun _ => Hfin.out⟩ (St.renew (h.to (L' := WkL gl gr A c ps B dr roots))) hj2
    · obtain ⟨k', hk', hsi⟩ := Hw.out.level hz
      subst hk'
      have Hsi := Lib.hid hsi
      have Hrest2 : Hid (restM (obsM ps) k' d (out, []) lev = walkM (obsM ps) roots) := Lib.hid (by rw [← walkF_rest hz]; exact Hrest.out)
      have hpos : 0 < lev.length := List.length_pos_iff.2 hz
      have f0 : (0 : Int) < (lev.length : Int) := by omega
      have hdl : d ≤ 1000001 := by omega
      clear hsi hz Hrest Hw
      have hJ1 := hJ.to (h.nilRow 33 32) hj (fun i hi => by simpa [reads_cons, rd_own, rd_blk, rd_map] using hi)
      replace h := (h.nilRow 33 32).renew
      go_wp2
      go_step3
      go_wp2
      go_step3
      go_wp2
      go_loopw [8, 25] (fun nv iv wr => ∃ (j : Nat) (s : WS) (AN : Option Addr) (cN : Nat) (mm : List (Id × Bool)), nv = .slice AN s.2.length cN ∧ iv = .int .i64 (j : Int) ∧ j ≤ lev.length ∧ Hid (SInv (obsM ps) k' d s) ∧ Hid (restM (obsM ps) k' d s (lev.drop j) = walkM (obsM ps) roots) ∧ Hid (MetIs mm s.1) ∧ s.1.length ≤ ps.length ∧ Hid (s.2.length ≤ 1000000 * s.1.length) ∧
          St (owns (eOwn 33 32 AN s.2.length cN (s.2.flatMap idc) :: eOwn 33 32 AL lev.length cL (lev.flatMap idc) :: eMap gm idv boV mm :: eMap ga idv natI mi :: WkL gl gr A c ps B dr roots)) wr wr (eOwn 33 32 AN s.2.length cN (s.2.flatMap idc) :: eOwn 33 32 AL lev.length cL (lev.flatMap idc) :: eMap gm idv boV mm :: eMap ga idv natI mi :: WkL gl gr A c ps B dr roots) ∧
          J s.1 (owns (eOwn 33 32 AN s.2.length cN (s.2.flatMap idc) :: eOwn 33 32 AL lev.length cL (lev.flatMap idc) :: eMap gm idv boV mm :: eMap ga idv natI mi :: WkL gl gr A c ps B dr roots)) (reads (eOwn 33 32 AN s.2.length cN (s.2.flatMap idc) :: eOwn 33 32 AL lev.length cL (lev.flatMap idc) :: eMap gm idv boV mm :: eMap ga idv natI mi :: WkL gl gr A c ps B dr roots)) wr) (fun _ iv _ => lev.length - (intOf iv).toNat)
      case atStart => exact ⟨0, (out, []), none, 0, mm, rfl, rfl, Nat.zero_le _, Hsi, Hrest2, Hmet, hout, Lib.hid (by simp), h, hJ1⟩
      case round =>
        clear h hJ1 hj Hmet Hsi Hrest2 hout
        obtain ⟨j, s, AN, cN, mm, rfl, rfl, hjl, Hsi, Hrest, Hmet, hout, Hlen, h, hj⟩ := hrel
        by_cases hjl2 : j < lev.length
        · have f2 : (j : Int) < (lev.length : Int) := by omega
          have t1 : ((j : Int)).toNat = j := by omega
          obtain ⟨x, hx⟩ : ∃ x, lev[j] = x := ⟨_, rfl⟩
          have hrx : Row (u8s x.1) 32 := Row.u32 x
          obtain ⟨bL, oL, rfl, _⟩ := (h.sl AL lev.length cL).pos (by omega)
          have hcs : ∀ {w}, Sl w (some ⟨bL, oL, none⟩) lev.length cL 32 (lev.flatMap idc) → Cells w bL (oL + j * 32) (u8s x.1) := fun hs => by rw [← hx]; exact hs.elemAt idc_length hjl2 (by omega)
          have Hdrop : Hid (restM (obsM ps) k' d (stepM (obsM ps) d s x) (lev.drop (j + 1)) = walkM (obsM ps) roots) := Lib.hid (by
            rw [← Hrest.out, List.drop_eq_getElem_cons hjl2, hx, rest_cons])
          have Hsi2 := Lib.hid (Hsi.out.step x)
          have Hlen2 := Lib.hid (step_len (x := x) (d := d) HM.out Hlen.out)
          clear hx
          have hmx := Hmi.out x
          cases hf : fstIx (ps.map (·.id)) x with
          | none =>
            rw [hf] at hmx
            have Hst := Lib.hid (step_no (d := d) (s := s) (by rw [ids_obs]; exact hf))
            rw [Hst.out] at Hdrop Hsi2
            clear hf
            go_wp2_with (first
              | (refine wl_at 28 rfl ?_; refine wl_reads rfl (ex_load_at _ _ rfl bL (oL + j * 32) rfl (u8s x.1) (by rw [u8s_length, x.2]) (hcs (h.sl (some ⟨bL, oL, none⟩) lev.length cL))) ?_) | (refine wl_at 10 rfl ?_; refine wl_runs rfl (ex_alloc h 33 rfl) ?_; clear h; rintro _ w ⟨g10, rfl, h⟩) | (refine wl_runs rfl (ex_store h _ _ _ rfl _ _ rfl (u8s x.1) rfl) ?_; clear h; rintro _ w ⟨rfl, h⟩; try dsimp only [Act.put])
              | (refine wl_at 31 rfl ?_; refine wl_reads rfl (ex_loadv h _ _ rfl _ _ rfl) ?_)
              | (refine wl_at 32 rfl ?_; refine wl_reads rfl (ex_look_none idv natI h _ _ _ rfl ga rfl x rfl hmx) ?_))
            have hj2 := hJ.to (L' := eOwn 33 32 AN s.2.length cN (s.2.flatMap idc) :: eOwn 33 32 (some ⟨bL, oL, none⟩) lev.length cL (lev.flatMap idc) :: eMap gm idv boV mm :: eMap ga idv natI mi :: WkL gl gr A c ps B dr roots) h.to hj (fun i hi => by simpa [reads_cons, rd_own, rd_blk, rd_map] using hi)
            refine ⟨⟨j + 1, s, AN, cN, mm, rfl, by push_cast; rfl, by omega, Hsi2, Hdrop, Hmet, hout, Hlen, St.renew (h.to (L' := eOwn 33 32 AN s.2.length cN (s.2.flatMap idc) :: eOwn 33 32 (some ⟨bL, oL, none⟩) lev.length cL (lev.flatMap idc) :: eMap gm idv boV mm :: eMap ga idv natI mi :: WkL gl gr A c ps B dr roots)), hj2⟩, ?_⟩
            simp only [intOf]
            omega
          | some q =>
            rw [hf] at hmx
            by_cases hmet : x ∈ s.1.map (·.2)
            · have hm2 : mget mm x = some true := by rw [Hmet.out x, if_pos hmet]
              have Hst := Lib.hid (step_met (d := d) (by rw [ids_obs]; exact hf) hmet)
              rw [Hst.out] at Hdrop Hsi2
              clear hf hmet
              go_wp2_with (first
                | (refine wl_at 28 rfl ?_; refine wl_reads rfl (ex_load_at _ _ rfl bL (oL + j * 32) rfl (u8s x.1) (by rw [u8s_length, x.2]) (hcs (h.sl (some ⟨bL, oL, none⟩) lev.length cL))) ?_) | (refine wl_at 10 rfl ?_; refine wl_runs rfl (ex_alloc h 33 rfl) ?_; clear h; rintro _ w ⟨g10, rfl, h⟩) | (refine wl_runs rfl (ex_store h _ _ _ rfl _ _ rfl (u8s x.1) rfl) ?_; clear h; rintro _ w ⟨rfl, h⟩; try dsimp only [Act.put])
                | (refine wl_at 31 rfl ?_; refine wl_reads rfl (ex_loadv h _ _ rfl _ _ rfl) ?_)
                | (refine wl_at 32 rfl ?_; refine wl_reads rfl (ex_look_eq idv natI h _ _ _ rfl ga rfl x rfl hmx (u := .int .i64 (q : Int)) rfl) ?_)
                | (refine wl_at 39 rfl ?_; refine wl_reads rfl (ex_loadv h _ _ rfl _ _ rfl) ?_)
                | (refine wl_at 40 rfl ?_; refine wl_reads (v := .bool true) rfl (ex_look1_some idv boV h _ _ _ rfl gm rfl x rfl hm2) ?_))
              have hj2 := hJ.to (L' := eOwn 33 32 AN s.2.length cN (s.2.flatMap idc) :: eOwn 33 32 (some ⟨bL, oL, none⟩) lev.length cL (lev.flatMap idc) :: eMap gm idv boV mm :: eMap ga idv natI mi :: WkL gl gr A c ps B dr roots) h.to hj (fun i hi => by simpa [reads_cons, rd_own, rd_blk, rd_map] using hi)
              refine ⟨⟨j + 1, s, AN, cN, mm, rfl, by push_cast; rfl, by omega, Hsi2, Hdrop, Hmet, hout, Hlen, St.renew (h.to (L' := eOwn 33 32 AN s.2.length cN (s.2.flatMap idc) :: eOwn 33 32 (some ⟨bL, oL, none⟩) lev.length cL (lev.flatMap idc) :: eMap gm idv boV mm :: eMap ga idv natI mi :: WkL gl gr A c ps B dr roots)), hj2⟩, ?_⟩
              simp only [intOf]
              omega
            · have hm2 : mget mm x = none := by rw [Hmet.out x, if_neg hmet]
              obtain ⟨hq, _, _⟩ := fstIx_some hf
              rw [List.length_map] at hq
              obtain ⟨p, hp⟩ : ∃ p, ps[q] = p := ⟨_, rfl⟩
              have hpm : p ∈ ps := by rw [← hp]; exact List.getElem_mem _
              have hla : linksAt (obsM ps) q = p.links := by simp [linksAt, hq, hp, obOf]
              have hst := step_new (d := d) (s := s) (by rw [ids_obs]; exact hf) hmet
              rw [hla] at hst
              rw [hst] at Hdrop Hsi2 Hlen2
              have hpn := (h.obsAt obc A ps.length c).2.n_eq hpm
              have hpl := Hls.out p hpm
              have hnx : s.2.length ≤ 1000000 * 1000000 := Nat.le_trans Hlen.out (Nat.mul_le_mul_left _ (by omega))
              have hout2 : Hid ((s.1 ++ [(d, x)]).length ≤ ps.length) := Lib.hid (by have := inv_len Hsi2.out.nd Hsi2.out.sub; rwa [HN.out] at this)
              have Hpre : Hid (s.1 ++ [(d, x)] <+: walkM (obsM ps) roots) := Lib.hid (by rw [← Hdrop.out]; exact rest_mono _ _ _ (s.1 ++ [(d, x)], s.2 ++ p.links) _)
              obtain ⟨bA, oA, rfl, _⟩ := (h.obsAt obc A ps.length c).1.pos (by omega)
              have hcp : ∀ {w}, Sl w (some ⟨bA, oA, none⟩) ps.length c 34 (ps.flatMap obc) → w.cell? ⟨bA, oA + q * 34 + 32, none⟩ = some (.slice p.A p.n p.c) := fun hs => cell_links (by rw [← hp]; exact hs.elemAt obc_length hq (by omega))
              have f3 : (q : Int) < (ps.length : Int) := by omega
              have t2 : ((q : Int)).toNat = q := by omega
              have hone := ids_one p.links
              have Hmet2 := Lib.hid (Hmet.out.next d x)
              have Hpn := Lib.hid hpn
              clear hf hmet hla hst hp Hsi Hlen
              go_upto_region 12 with (first
                | (refine wl_at 28 rfl ?_; refine wl_reads rfl (ex_load_at _ _ rfl bL (oL + j * 32) rfl (u8s x.1) (by rw [u8s_length, x.2]) (hcs (h.sl (some ⟨bL, oL, none⟩) lev.length cL))) ?_) | (refine wl_at 10 rfl ?_; refine wl_runs rfl (ex_alloc h 33 rfl) ?_; clear h; rintro _ w ⟨g10, rfl, h⟩) | (refine wl_runs rfl (ex_store h _ _ _ rfl _ _ rfl (u8s x.1) rfl) ?_; clear h; rintro _ w ⟨rfl, h⟩; try dsimp only [Act.put])
                | (refine wl_at 31 rfl ?_; refine wl_reads rfl (ex_loadv h _ _ rfl _ _ rfl) ?_)
                | (refine wl_at 32 rfl ?_; refine wl_reads rfl (ex_look_eq idv natI h _ _ _ rfl ga rfl x rfl hmx (u := .int .i64 (q : Int)) rfl) ?_)
                | (refine wl_at 39 rfl ?_; refine wl_reads rfl (ex_loadv h _ _ rfl _ _ rfl) ?_)
                | (refine wl_at 40 rfl ?_; refine wl_reads rfl (ex_look1_none idv boV h _ _ _ rfl gm rfl x rfl hm2) ?_)
                | (refine wl_at 43 rfl ?_; refine wl_reads rfl (ex_loadv h _ _ rfl _ _ rfl) ?_)
                | (refine wl_none rfl ?_; refine wl_runs rfl (ex_mput (kv := idv) (vv := boV) h _ _ _ _ rfl gm rfl x rfl true rfl) ?_; clear h; rintro _ w ⟨rfl, h⟩; try dsimp only [Act.put]))
              have hJ2 := hJ.to h hj (fun i hi => by simpa [reads_cons, rd_own, rd_blk, rd_map] using hi)
              clear hj
              replace h := h.renew
              refine (wpIn_wide (n := n)).1 ?_
              obtain ⟨fn, tmps, assign, body, hy, hR⟩ := hY _ (d, x) _ _ _ hJ2 Hpre.out
              simp only [natI] at hy
              have hyx : idc x = u8s x.1 := rfl
              rw [hyx] at hy
              clear hJ2 hyx
              gi_wp2_with (first | (refine wi_reads rfl (ex_loadv h _ _ rfl _ _ rfl) ?_))
              refine ⟨fun h => (by cases h), hR.mono ?_⟩
              clear hR hy
              rintro e W3 ⟨hs3, ⟨rfl, hJ3⟩ | ⟨rfl, hJx3⟩⟩
              · replace h := h.over hs3
                have hj3 := hJ.to (pre := s.1 ++ [(d, x)]) h hJ3 (fun i hi => hi)
                clear hJ3
                gi_wp2
                go_wp2_with (first
                  | (refine wl_at 50 rfl ?_; refine wl_reads rfl (ex_loadv h _ _ rfl _ _ rfl) ?_)
                  | (refine wl_at 54 rfl ?_; refine wl_reads rfl (ex_load1_at _ _ rfl bA (oA + q * 34 + 32) rfl (.slice p.A p.n p.c) (hcp (h.obsAt obc (some ⟨bA, oA, none⟩) ps.length c).1)) ?_)
                  | (refine wl_at 55 rfl ?_; refine wl_runs rfl (ex_append h _ _ _ rfl AN rfl p.A p.n p.c rfl ((h.obsAt obc (some ⟨bA, oA, none⟩) ps.length c).2 p hpm) hone (by simp [maxLen]; omega) (by omega)) ?_; rintro _ w ⟨A2, c2, rfl, h2⟩))
                have e1 : s.2.length + p.n = (s.2 ++ p.links).length := by rw [List.length_append, Hpn.out]
                have e2 : s.2.flatMap idc ++ p.links.flatMap idc = (s.2 ++ p.links).flatMap idc := by rw [List.flatMap_append]
                rw [e1, e2] at h2
                replace h2 := St.to (L' := eOwn 33 32 A2 (s.2 ++ p.links).length c2 ((s.2 ++ p.links).flatMap idc) :: eOwn 33 32 (some ⟨bL, oL, none⟩) lev.length cL (lev.flatMap idc) :: eMap gm idv boV (mset mm x true) :: eMap ga idv natI mi :: WkL gl gr (some ⟨bA, oA, none⟩) c ps B dr roots) h2
                have hj4 := hJ.to h2 hj3 (fun i hi => by simpa [reads_cons, rd_own, rd_blk, rd_map] using hi)
                refine ⟨⟨j + 1, (s.1 ++ [(d, x)], s.2 ++ p.links), A2, c2, mset mm x true, by simp [Hpn.out], by push_cast; rfl, by omega, Hsi2, Hdrop, Hmet2, hout2.out, Hlen2, h2.renew, hj4⟩, ?_⟩
                simp only [intOf]
                omega
              · replace h := h.over hs3
                have hj3 := hJx.to (pre := s.1 ++ [(d, x)]) (h.to (L' := WkL gl gr (some ⟨bA, oA, none⟩) c ps B dr roots)) hJx3 (fun i hi => by simpa [reads_cons, rd_own, rd_blk, rd_map] using hi)
                gi_wp2
                go_wp2
                try rw [Exit.noGoto_ret]
                exact bodyPost_ret (results_none rfl _ _ _) rfl (IterEnd.stops (pre := s.1 ++ [(d, x)]) ⟨rfl, fun e => by cases e⟩ (St.renew (h.to (L' := WkL gl gr (some ⟨bA, oA, none⟩) c ps B dr roots))) hj3)
        · obtain rfl : j = lev.length := by omega
          have hkk : ¬ ((lev.length : Int) < (lev.length : Int)) := by omega
          have Hfin : Hid (walkF (obsM ps) k' (d + 1) s.1 s.2 = walkM (obsM ps) roots) := Lib.hid (by
            have := Hrest.out
            rwa [List.drop_length, rest_nil] at this)
          have Hw2 := Lib.hid Hsi.out.done
          have hnx : s.2.length ≤ 1000000 * 1000000 := Nat.le_trans Hlen.out (Nat.mul_le_mul_left _ (by omega))
          clear hjl2 hjl Hrest
          go_wp2
          have hj2 := hJ.to (L' := eOwn 33 32 AN s.2.length cN (s.2.flatMap idc) :: eMap gm idv boV mm :: eMap ga idv natI mi :: WkL gl gr A c ps B dr roots) h.to hj (fun i hi => by simpa [reads_cons, rd_own, rd_blk, rd_map] using hi)
          refine ⟨⟨k', d + 1, s.1, s.2, AN, cN, mm, rfl, by push_cast; rfl, by omega, Hw2, Hfin, Hmet, hnx, hout, St.renew (h.to (L' := eOwn 33 32 AN s.2.length cN (s.2.flatMap idc) :: eMap gm idv boV mm :: eMap ga idv natI mi :: WkL gl gr A c ps B dr roots)), hj2⟩, ?_⟩
          simp only [intOf]
          omega
end Go.Proofs.Ytionnlckjjojnaa
