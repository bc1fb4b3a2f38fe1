/- mark.Reach, mark.Sweep. -/
import Derived.Test.YtionnlckjjojnaaCMarkWalk
import Derived.Test.YtionnlckjjojnaaCEnvLinks
import Derived.Test.YtionnlckjjojnaaCRefLinks
namespace Go.Proofs.Ytionnlckjjojnaa
open Go.RowKit Go.Shelf Go.Maps
set_option linter.unusedVariables false
set_option linter.unusedSimpArgs false

theorem links_own {S : Nat → Prop} {w0 w : World} {L : List Ent} {A : Option Addr} {n c : Nat} {l : List Id} (h : St S w0 w L) [ka : HasSl L A n c 32 (l.flatMap idc)] (hl : l.length ≤ 1000000) :
    Calls Try.prog 38 #[.slice A n c] w fun e w' => ∃ A1 c1, e = .returned (.slice A1 (linksM l).length c1) ∧ St S w0 w' (eOwn 33 32 A1 (linksM l).length c1 ((linksM l).flatMap idc) :: L) := by
  refine (env_links (St.read0 (h.sl A n c) (by omega)) hl).mono ?_
  rintro e w' ⟨A1, c1, rfl, k⟩
  exact ⟨A1, c1, rfl, h.frame01 k.to⟩
def ReachP (go : Nat) (A1 : Option Addr) (c1 n : Nat) (pre : List (Nat × Id)) (F : List Ent) : List Ent := eBlk go 23 [.slice A1 n c1] :: eOwn 33 32 A1 n c1 ((pre.map fun p => p.2).flatMap idc) :: F
def ReachL (go : Nat) (F : List Ent) (pre : List (Nat × Id)) (L : List Ent) : Prop := ∃ A1 c1, L = ReachP go A1 c1 pre.length pre F
def ReachAx (go : Nat) (F : List Ent) (t : Array Value) (pre : List (Nat × Id)) (x : Nat × Id) (a' : Act) (L : List Ent) : Prop := ∃ g7 A1 c1, a' = { tmps := (((t.setIfInBounds 11 (natI x.1)).setIfInBounds 12 (.agg (u8s x.2.1).toArray)).setIfInBounds 7 (.pointer (some ⟨g7, 0, none⟩))), defers := [] } ∧ L = eBlk g7 33 (u8s x.2.1) :: ReachP go A1 c1 pre.length pre F
attribute [local go_sem] Oper.semAt_some
set_option maxRecDepth 100000 in
set_option maxHeartbeats 2000000 in
theorem mark_reach {S : Nat → Prop} {w0 w : World} {F : List Ent} {A B : Option Addr} {c d : Nat} {ps : List ObAt} {roots : List Id} (h : St S w0 w (eObs obc A ps.length c ps :: eSl B roots.length d 32 (roots.flatMap idc) :: F)) (hl : ps.length ≤ 1000000) (hls : ∀ p ∈ ps, p.links.length ≤ 1000000) (hr : roots.length ≤ 1000000) :
    Calls Try.prog 16 #[.slice A ps.length c, .slice B roots.length d] w fun e w' => ∃ A1 c1, e = .returned (.slice A1 (linksM (reachM (obsM ps) roots)).length c1) ∧ St S w0 w' (eOwn 33 32 A1 (linksM (reachM (obsM ps) roots)).length c1 ((linksM (reachM (obsM ps) roots)).flatMap idc) :: eObs obc A ps.length c ps :: eSl B roots.length d 32 (roots.flatMap idc) :: F) := by
  have hwl := walk_len (obsM ps) roots
  rw [List.length_map] at hwl
  have Hwl := Lib.hid hwl
  clear hwl
  refine callsIn_wide.1 (callsIn_of_wp_marks (F := Fence.wide) (n := 3) Try.func16 rfl trivial ?_ rfl)
  simp only [Try.ntmps16, List.size_toArray, List.length_cons, List.length_nil, Nat.reduceAdd, Nat.reduceSub, Array.replicate_succ, Array.replicate_zero, List.push_toArray, List.append_toArray, List.nil_append, List.cons_append]
  refine wpIn_wide.2 ?_
  go_wp2_with (first
    | (refine wl_runs rfl (ex_alloc h 23 rfl) ?_; clear h; rintro _ w ⟨go, rfl, h⟩)
    | (go_at_call 14; refine (walk_make (A := A) (B := B) (n := ps.length) (c := c) (m := roots.length) (d := d) h).mono ?_; clear h; rintro e w ⟨gl, gr, rfl, h⟩))
  replace h := h.nilRow 33 32
  replace h : St S w0 w (WkL gl gr A c ps B d roots ++ ReachP go none 0 ([] : List (Nat × Id)).length [] F) := St.to (L' := eBlk gl 22 [.slice A ps.length c] :: eBlk gr 23 [.slice B roots.length d] :: eObs obc A ps.length c ps :: eSl B roots.length d 32 (roots.flatMap idc) :: eBlk go 23 [.slice none 0 0] :: eOwn 33 32 none 0 0 [] :: F) h
  refine wp_iter rfl (enters_of Try.func35 (by kernel_rfl) rfl) (walk_iters hl hls hr) (fun _ => rfl) h (ReachL go F) (fun _ _ _ => False) (ReachAx go F) ⟨none, 0, rfl⟩ ?assign ?body ?done ?stop
  case assign =>
    rintro l' T X O R' pre x L W ⟨A1, c1, rfl⟩ _ h
    have hrx : Row (u8s x.2.1) 32 := Row.u32 x.2
    rw [zip2]
    simp only [List.setIfInBounds_toArray, List.set_cons_succ, List.set_cons_zero]
    gi_wp2_with (first
      | (refine wi_runs rfl (ex_alloc h 33 rfl) ?_; clear h; rintro _ w ⟨g7, rfl, h⟩)
      | (refine wi_runs rfl (ex_store h _ _ _ rfl _ _ rfl (u8s x.2.1) rfl) ?_; clear h; rintro _ w ⟨rfl, h⟩; try dsimp only [Act.put]))
    exact ⟨_, ⟨g7, A1, c1, rfl, rfl⟩, h.to⟩
  case body =>
    rintro l' T X O R' pre x a' L W W2 ⟨g7, A1, c1, rfl, rfl⟩ hok h
    have hle := hok.length_le
    rw [List.length_append, List.length_singleton] at hle
    have hpl : pre.length < 1000000 := by have := Hwl.out; omega
    have hrx : Row (u8s x.2.1) 32 := Row.u32 x.2
    have h1x := u8s_one x.2.1
    clear hok hle
    unfold ReachP at h
    simp only [List.setIfInBounds_toArray, List.set_cons_succ, List.set_cons_zero]
    gi_wp2_with (first
      | (refine wi_runs rfl (ex_slice1 h _ _ rfl (u8s x.2.1) rfl) ?_; clear h; rintro _ w ⟨gq, rfl, h⟩)
      | (refine wi_runs rfl (ex_append h _ _ _ rfl A1 rfl (some ⟨gq, 0, none⟩) 1 1 rfl (h.slBox gq) h1x (by simp [maxLen]; omega) (by omega)) ?_; clear h; rintro _ w ⟨A2, c2, rfl, h⟩)
      | (refine wi_runs rfl (ex_store1s h _ _ _ rfl _ _ rfl _ _ _ rfl) ?_; clear h; rintro _ w ⟨rfl, h⟩; try dsimp only [Act.put])
      | (refine wi_reads rfl (ex_loadv h _ _ rfl _ _ rfl) ?_))
    have e3 : pre.length + 1 = (pre ++ [x]).length := by simp
    have e4 : (pre.map fun p => p.2).flatMap idc ++ u8s x.2.1 = ((pre ++ [x]).map fun p => p.2).flatMap idc := by simp [idc]
    rw [e3, e4] at h
    exact ⟨_, ⟨A2, c2, rfl⟩, h.to (L' := X :: eOp O R' W :: eBlk go 23 [.slice A2 (pre ++ [x]).length c2] :: eOwn 33 32 A2 (pre ++ [x]).length c2 (((pre ++ [x]).map fun p : Nat × Id => p.2).flatMap idc) :: F)⟩
  case done =>
    rintro D9 pre L Lf W ⟨A1, c1, rfl⟩ ⟨rfl, hp⟩ h
    obtain rfl := hp rfl
    clear hp
    replace h : St S w0 W (eDfr D9 :: eBlk gl 22 [.slice A ps.length c] :: eBlk gr 23 [.slice B roots.length d] :: eObs obc A ps.length c ps :: eSl B roots.length d 32 (roots.flatMap idc) :: eBlk go 23 [.slice A1 (walkM (obsM ps) roots).length c1] :: eOwn 33 32 A1 (walkM (obsM ps) roots).length c1 ((reachM (obsM ps) roots).flatMap idc) :: F) := h
    have hwl := Hwl.out
    go_wp2_with (first
      | (go_at_call 38; refine (links_own (A := A1) (c := c1) (l := reachM (obsM ps) roots) h (by rw [reachM, List.length_map]; omega)).mono ?_; clear h; rintro e w ⟨A2, c2, rfl, h⟩)
      | (refine wl_reads rfl (ex_loadv h _ _ rfl _ _ rfl) ?_))
    refine ret_mark (h.dfr (D := D9)) rfl (results_tmp rfl _ _ _) ⟨A2, c2, rfl, ?_⟩
    exact (h.putDfr (D := D9)).to
  case stop => exact fun _ _ _ _ _ _ hf => hf.elim

def SweepP (g6 gm : Nat) (mm : List (Id × Bool)) (F : List Ent) : List Ent := eBlk g6 64 [.map (some gm)] :: eMap gm idv boV mm :: F
def SweepL (g6 gm : Nat) (F : List Ent) (pre : List (Nat × Id)) (L : List Ent) : Prop := ∃ mm, MetIs mm pre ∧ L = SweepP g6 gm mm F
def SweepAx (g6 gm : Nat) (F : List Ent) (t : Array Value) (pre : List (Nat × Id)) (x : Nat × Id) (a' : Act) (L : List Ent) : Prop := ∃ g8 mm, a' = { tmps := (((t.setIfInBounds 15 (natI x.1)).setIfInBounds 16 (.agg (u8s x.2.1).toArray)).setIfInBounds 8 (.pointer (some ⟨g8, 0, none⟩))), defers := [] } ∧ MetIs mm pre ∧ L = eBlk g8 33 (u8s x.2.1) :: SweepP g6 gm mm F
theorem obs_snoc (l : List ObAt) (p : ObAt) : obsM (l ++ [p]) = obsM l ++ [obOf p] := by simp [obsM]
set_option maxRecDepth 100000 in
set_option maxHeartbeats 4000000 in
theorem mark_sweep {S : Nat → Prop} {w0 w : World} {F : List Ent} {A B : Option Addr} {c d : Nat} {ps : List ObAt} {roots : List Id} (h : St S w0 w (eObs obc A ps.length c ps :: eSl B roots.length d 32 (roots.flatMap idc) :: F)) (hl : ps.length ≤ 1000000) (hls : ∀ p ∈ ps, p.links.length ≤ 1000000) (hr : roots.length ≤ 1000000) :
    Calls Try.prog 18 #[.slice A ps.length c, .slice B roots.length d] w fun e w' => ∃ A1 c1 A2 c2 kps, e = .returned (.tuple #[.slice A1 kps.length c1, .slice A2 (linksM (goneM (obsM ps) roots)).length c2]) ∧ obsM kps = keptM (obsM ps) roots ∧
      St S w0 w' (eOwn 44 34 A1 kps.length c1 (kps.flatMap obc) :: eLnk kps :: eOwn 33 32 A2 (linksM (goneM (obsM ps) roots)).length c2 ((linksM (goneM (obsM ps) roots)).flatMap idc) :: eObs obc A ps.length c ps :: eSl B roots.length d 32 (roots.flatMap idc) :: F) := by
  have hwl := walk_len (obsM ps) roots
  rw [List.length_map] at hwl
  have Hwl := Lib.hid hwl
  have Hls := Lib.hid hls
  clear hwl
  refine callsIn_wide.1 (callsIn_of_wp_marks (F := Fence.wide) (n := 3) Try.func18 rfl trivial ?_ rfl)
  simp only [Try.ntmps18, List.size_toArray, List.length_cons, List.length_nil, Nat.reduceAdd, Nat.reduceSub, Array.replicate_succ, Array.replicate_zero, List.push_toArray, List.append_toArray, List.nil_append, List.cons_append]
  refine wpIn_wide.2 ?_
  go_wp2_with (first
    | (refine wl_at 11 rfl ?_; refine wl_runs rfl (ex_mmake h _ rfl idv boV) ?_; clear h; rintro _ w ⟨gm, rfl, h⟩)
    | (refine wl_at 6 rfl ?_; refine wl_runs rfl (ex_alloc h 64 rfl) ?_; clear h; rintro _ w ⟨g6, rfl, h⟩)
    | (refine wl_none rfl ?_; refine wl_runs rfl (ex_store1m h _ _ _ rfl _ _ rfl _ rfl) ?_; clear h; rintro _ w ⟨rfl, h⟩; try dsimp only [Act.put])
    | (go_at_call 14; refine (walk_make (A := A) (B := B) (n := ps.length) (c := c) (m := roots.length) (d := d) h).mono ?_; clear h; rintro e w ⟨gl, gr, rfl, h⟩))
  replace h : St S w0 w (WkL gl gr A c ps B d roots ++ SweepP g6 gm [] F) := St.to (L' := eBlk gl 22 [.slice A ps.length c] :: eBlk gr 23 [.slice B roots.length d] :: eObs obc A ps.length c ps :: eSl B roots.length d 32 (roots.flatMap idc) :: eBlk g6 64 [.map (some gm)] :: eMap gm idv boV [] :: F) h
  refine wp_iter rfl (enters_of Try.func35 (by kernel_rfl) rfl) (walk_iters hl hls hr) (fun _ => rfl) h (SweepL g6 gm F) (fun _ _ _ => False) (SweepAx g6 gm F) ⟨[], fun x => by rw [mget_nil]; simp, rfl⟩ ?assign ?body ?done ?stop
  case assign =>
    rintro l' T X O R' pre x L W ⟨mm, hmm, rfl⟩ _ h
    have hrx : Row (u8s x.2.1) 32 := Row.u32 x.2
    rw [zip2]
    simp only [List.setIfInBounds_toArray, List.set_cons_succ, List.set_cons_zero]
    gi_wp2_with (first
      | (refine wi_runs rfl (ex_alloc h 33 rfl) ?_; clear h; rintro _ w ⟨g8, rfl, h⟩)
      | (refine wi_runs rfl (ex_store h _ _ _ rfl _ _ rfl (u8s x.2.1) rfl) ?_; clear h; rintro _ w ⟨rfl, h⟩; try dsimp only [Act.put]))
    exact ⟨_, ⟨g8, mm, rfl, hmm, rfl⟩, h.to⟩
  case body =>
    rintro l' T X O R' pre x a' L W W2 ⟨g8, mm, rfl, hmm, rfl⟩ _ h
    have hrx : Row (u8s x.2.1) 32 := Row.u32 x.2
    have Hm2 := Lib.hid (hmm.next x.1 x.2)
    clear hmm
    unfold SweepP at h
    simp only [List.setIfInBounds_toArray, List.set_cons_succ, List.set_cons_zero]
    gi_wp2_with (first
      | (refine wi_runs rfl (ex_mput (kv := idv) (vv := boV) h _ _ _ _ rfl gm rfl x.2 rfl true rfl) ?_; clear h; rintro _ w ⟨rfl, h⟩; try dsimp only [Act.put])
      | (refine wi_reads rfl (ex_loadv h _ _ rfl _ _ rfl) ?_))
    exact ⟨_, ⟨_, Hm2.out, rfl⟩, h.to (L' := X :: eOp O R' W :: eBlk g6 64 [.map (some gm)] :: eMap gm idv boV (mset mm x.2 true) :: F)⟩
  case done =>
    rintro D9 pre L Lf W ⟨mm, hmm, rfl⟩ ⟨rfl, hp⟩ h
    obtain rfl := hp rfl
    have Hmm : Hid (∀ x, mget mm x = if x ∈ reachM (obsM ps) roots then some true else none) := Lib.hid hmm
    clear hp hmm
    replace h : St S w0 W (eDfr D9 :: eBlk gl 22 [.slice A ps.length c] :: eBlk gr 23 [.slice B roots.length d] :: eObs obc A ps.length c ps :: eSl B roots.length d 32 (roots.flatMap idc) :: eBlk g6 64 [.map (some gm)] :: eMap gm idv boV mm :: F) := h
    replace h := ((h.nilRow 33 32).lnk0).nilRow 44 34
    obtain ⟨R, hR⟩ : ∃ R : Ob → Bool, R = fun o => decide (o.id ∈ reachM (obsM ps) roots) := ⟨_, rfl⟩
    have HR := Lib.hid (fun o => congrFun hR o)
    clear hR
    go_wp2
    go_loopw [4, 5, 21] (fun kv gv iv wr => ∃ (k : Nat) (kps : List ObAt) (gs : List Id) (AK AG : Option Addr) (cK cG : Nat), kv = .slice AK kps.length cK ∧ gv = .slice AG gs.length cG ∧ iv = .int .i64 (k : Int) ∧ k ≤ ps.length ∧ kps.length ≤ k ∧ gs.length ≤ k ∧ Hid (obsM kps = (obsM (ps.take k)).filter R) ∧ Hid (gs = ((obsM (ps.take k)).filter fun o => !R o).map (·.id)) ∧
      St S w0 wr (eOwn 44 34 AK kps.length cK (kps.flatMap obc) :: eLnk kps :: eOwn 33 32 AG gs.length cG (gs.flatMap idc) :: eDfr D9 :: eBlk g6 64 [.map (some gm)] :: eMap gm idv boV mm :: eObs obc A ps.length c ps :: eSl B roots.length d 32 (roots.flatMap idc) :: F)) (fun _ _ iv _ => ps.length - (intOf iv).toNat)
    case atStart => exact ⟨0, [], [], none, none, 0, 0, rfl, rfl, rfl, Nat.zero_le _, Nat.zero_le _, Nat.zero_le _, Lib.hid (by simp), Lib.hid (by simp), h.to (L' := eOwn 44 34 none 0 0 [] :: eLnk [] :: eOwn 33 32 none 0 0 [] :: eDfr D9 :: eBlk g6 64 [.map (some gm)] :: eMap gm idv boV mm :: eObs obc A ps.length c ps :: eSl B roots.length d 32 (roots.flatMap idc) :: F)⟩
    case round =>
      clear h
      obtain ⟨k, kps, gs, AK, AG, cK, cG, rfl, rfl, rfl, hk, hkk, hgk, Hkp, Hgs, h⟩ := hrel
      by_cases hkl : k < ps.length
      · have f2 : (k : Int) < (ps.length : Int) := by omega
        have t1 : ((k : Int)).toNat = k := by omega
        obtain ⟨p, hp⟩ : ∃ p, ps[k] = p := ⟨_, rfl⟩
        have hpm : p ∈ ps := by rw [← hp]; exact List.getElem_mem _
        have hpn := (h.obsAt obc A ps.length c).2.n_eq hpm
        have hpl := Hls.out p hpm
        have hpn2 : p.n ≤ 1000000 := by rw [hpn]; exact hpl
        replace h := h.oneLinks obc A ps.length c hpm
        obtain ⟨b, off, rfl, _⟩ := (h.obsAt obc A ps.length c).1.pos (by omega)
        have hcs : ∀ {w}, Sl w (some ⟨b, off, none⟩) ps.length c 34 (ps.flatMap obc) → Cells w b (off + k * 34) (obc p) := fun hs => by rw [← hp]; exact hs.elemAt obc_length hkl (by omega)
        have htk : ps.take (k + 1) = ps.take k ++ [p] := by rw [List.take_succ_eq_append_getElem hkl, hp]
        have hmx := Hmm.out p.id
        have hR := HR.out (obOf p)
        simp only [obOf] at hR
        have Hk2 : Hid (obsM (kps ++ (if R (obOf p) then [p] else [])) = (obsM (ps.take (k + 1))).filter R) := Lib.hid (by
          rw [htk, obs_snoc, List.filter_append, ← Hkp.out]
          by_cases hRp : R (obOf p) = true
          · simp [hRp, obsM]
          · simp [hRp, obsM])
        have Hg2 : Hid (gs ++ (if R (obOf p) then [] else [p.id]) = ((obsM (ps.take (k + 1))).filter fun o => !R o).map (·.id)) := Lib.hid (by
          rw [htk, obs_snoc, List.filter_append, List.map_append, ← Hgs.out]
          by_cases hRp : R (obOf p) = true
          · simp [hRp]
          · rw [if_neg hRp, List.filter_cons, if_pos (by simpa using hRp)]; simp [obOf])
        have Hpn := Lib.hid hpn
        clear hp hpl htk hpn
        by_cases hre : p.id ∈ reachM (obsM ps) roots
        · have hRt : R (obOf p) = true := by rw [HR.out]; exact decide_eq_true hre
          rw [if_pos hre] at hmx
          rw [if_pos hRt] at Hk2 Hg2
          rw [List.append_nil] at Hg2
          clear hR hRt hre
          obtain ⟨pA, pn, pc, pi, pl, px⟩ := p
          simp only at hpn2 hmx Hpn
          have hrx : Row (u8s pi.1) 32 := Row.u32 pi
          go_wp2_with (first
            | (refine wl_at 24 rfl ?_; refine wl_reads rfl (ex_load_at _ _ rfl b (off + k * 34) rfl ((c_api_Object (u8s pi.1) (.slice pA pn pc) (.int .i64 px))) (obc_length ⟨pA, pn, pc, pi, pl, px⟩) (hcs (h.obsAt obc (some ⟨b, off, none⟩) ps.length c).1)) ?_)
            | (refine wl_at 10 rfl ?_; refine wl_runs rfl (ex_alloc h 44 rfl) ?_; clear h; rintro _ w ⟨g10, rfl, h⟩)
            | (refine wl_none rfl ?_; refine wl_runs rfl (ex_store h _ _ _ rfl _ _ rfl ((c_api_Object (u8s pi.1) (.slice pA pn pc) (.int .i64 px))) rfl) ?_; clear h; rintro _ w ⟨rfl, h⟩; try dsimp only [Act.put])
            | (refine wl_at 25 rfl ?_; refine wl_reads rfl (ex_loadv h _ _ rfl _ _ rfl) ?_)
            | (refine wl_at 27 rfl ?_; refine wl_reads rfl (ex_loadv h _ _ rfl _ _ rfl) ?_)
            | (refine wl_at 28 rfl ?_; refine wl_reads (v := .bool true) rfl (ex_look1_some idv boV h _ _ _ rfl gm rfl pi rfl hmx) ?_)
            | (refine wl_at 30 rfl ?_; refine wl_reads rfl (ex_loadv h _ _ rfl _ _ rfl) ?_)
            | (go_at_call 37; refine (clone_ids (A := pA) (n := pn) (c := pc) (xs := pl) h (by omega)).mono ?_; clear h; rintro e w ⟨A1, c1, rfl, h⟩)
            | (refine wl_none rfl ?_; refine wl_runs rfl (ex_store1s h _ _ _ rfl _ _ rfl _ _ _ rfl) ?_; clear h; rintro _ w ⟨rfl, h⟩; try dsimp only [Act.put])
            | (refine wl_at 34 rfl ?_; refine wl_reads rfl (ex_loadv h _ _ rfl _ _ rfl) ?_)
            | (refine wl_at 35 rfl ?_; refine wl_runs rfl (ex_slice1 h _ _ rfl (c_api_Object (u8s pi.1) (.slice A1 pn c1) (.int .i64 px)) rfl) ?_; clear h; rintro _ w ⟨gq, rfl, h⟩)
            | (refine wl_at 36 rfl ?_; refine wl_runs rfl (ex_append h _ _ _ rfl AK rfl (some ⟨gq, 0, none⟩) 1 1 rfl (h.slBox gq) (inferInstance : Row (c_api_Object (u8s pi.1) (.slice A1 pn c1) (.int .i64 px)) 34).one (by simp [maxLen]; omega) (by omega)) ?_; clear h; rintro _ w ⟨AK2, cK2, rfl, h⟩))
          replace h : St S w0 w (eOwn 33 32 A1 pn c1 (pl.flatMap idc) :: eLnk kps :: eOwn 44 34 AK2 (kps.length + 1) cK2 (kps.flatMap obc ++ c_api_Object (u8s pi.1) (.slice A1 pn c1) (.int .i64 px)) :: eOwn 33 32 AG gs.length cG (gs.flatMap idc) :: eDfr D9 :: eBlk g6 64 [.map (some gm)] :: eMap gm idv boV mm :: eObs obc (some ⟨b, off, none⟩) ps.length c ps :: eSl B roots.length d 32 (roots.flatMap idc) :: F) := h.to
          replace h := h.lnkAdd pi px
          have e1 : kps.length + 1 = (kps ++ [(⟨A1, pn, c1, pi, pl, px⟩ : ObAt)]).length := by simp
          have e2 : kps.flatMap obc ++ c_api_Object (u8s pi.1) (.slice A1 pn c1) (.int .i64 px) = (kps ++ [(⟨A1, pn, c1, pi, pl, px⟩ : ObAt)]).flatMap obc := by simp
          have Hk3 : Hid (obsM (kps ++ [(⟨A1, pn, c1, pi, pl, px⟩ : ObAt)]) = (obsM (ps.take (k + 1))).filter R) := Lib.hid (by
            have := Hk2.out
            rw [obs_snoc] at this ⊢
            exact this)
          rw [e1, e2] at h
          refine ⟨⟨k + 1, kps ++ [⟨A1, pn, c1, pi, pl, px⟩], gs, AK2, AG, cK2, cG, by simp, rfl, by push_cast; rfl, by omega, by simp; omega, by omega, Hk3, Hg2, h.to⟩, ?_⟩
          simp only [intOf]
          omega
        · have hRt : R (obOf p) = false := by rw [HR.out]; exact decide_eq_false hre
          rw [if_neg hre] at hmx
          rw [if_neg (by rw [hRt]; exact Bool.false_ne_true)] at Hk2 Hg2
          rw [List.append_nil] at Hk2
          clear hR hRt hre
          obtain ⟨pA, pn, pc, pi, pl, px⟩ := p
          simp only at hpn2 hmx Hpn
          have hrx : Row (u8s pi.1) 32 := Row.u32 pi
          have h1x := u8s_one pi.1
          go_wp2_with (first
            | (refine wl_at 24 rfl ?_; refine wl_reads rfl (ex_load_at _ _ rfl b (off + k * 34) rfl ((c_api_Object (u8s pi.1) (.slice pA pn pc) (.int .i64 px))) (obc_length ⟨pA, pn, pc, pi, pl, px⟩) (hcs (h.obsAt obc (some ⟨b, off, none⟩) ps.length c).1)) ?_)
            | (refine wl_at 10 rfl ?_; refine wl_runs rfl (ex_alloc h 44 rfl) ?_; clear h; rintro _ w ⟨g10, rfl, h⟩)
            | (refine wl_none rfl ?_; refine wl_runs rfl (ex_store h _ _ _ rfl _ _ rfl ((c_api_Object (u8s pi.1) (.slice pA pn pc) (.int .i64 px))) rfl) ?_; clear h; rintro _ w ⟨rfl, h⟩; try dsimp only [Act.put])
            | (refine wl_at 25 rfl ?_; refine wl_reads rfl (ex_loadv h _ _ rfl _ _ rfl) ?_)
            | (refine wl_at 27 rfl ?_; refine wl_reads rfl (ex_loadv h _ _ rfl _ _ rfl) ?_)
            | (refine wl_at 28 rfl ?_; refine wl_reads rfl (ex_look1_none idv boV h _ _ _ rfl gm rfl pi rfl hmx) ?_)
            | (refine wl_at 39 rfl ?_; refine wl_reads rfl (ex_loadv h _ _ rfl _ _ rfl) ?_)
            | (refine wl_at 40 rfl ?_; refine wl_runs rfl (ex_slice1 h _ _ rfl (u8s pi.1) rfl) ?_; clear h; rintro _ w ⟨gq, rfl, h⟩)
            | (refine wl_at 41 rfl ?_; refine wl_runs rfl (ex_append h _ _ _ rfl AG rfl (some ⟨gq, 0, none⟩) 1 1 rfl (h.slBox gq) h1x (by simp [maxLen]; omega) (by omega)) ?_; clear h; rintro _ w ⟨AG2, cG2, rfl, h⟩))
          have e1 : gs.length + 1 = (gs ++ [pi]).length := by simp
          have e2 : gs.flatMap idc ++ u8s pi.1 = (gs ++ [pi]).flatMap idc := by simp [idc]
          rw [e1, e2] at h
          refine ⟨⟨k + 1, kps, gs ++ [pi], AK, AG2, cK, cG2, rfl, by simp, by push_cast; rfl, by omega, by omega, by simp; omega, Hk2, Hg2, h.to⟩, ?_⟩
          simp only [intOf]
          omega
      · obtain rfl : k = ps.length := by omega
        have hkk2 : ¬ ((ps.length : Int) < (ps.length : Int)) := by omega
        have Hkf : Hid (obsM kps = keptM (obsM ps) roots) := Lib.hid (by
          rw [Hkp.out, List.take_length, keptM]
          congr 1
          funext o
          exact HR.out o)
        have Hgf : Hid (gs = goneM (obsM ps) roots) := Lib.hid (by
          rw [Hgs.out, List.take_length, goneM]
          congr 2
          funext o
          rw [HR.out o])
        clear hkl hk Hkp Hgs
        go_wp2_with (first
          | (go_at_call 38; refine (links_own (A := AG) (n := gs.length) (c := cG) (l := gs) h (by omega)).mono ?_; rw [Hgf.out]; clear h; rintro e w ⟨A2, c2, rfl, h⟩))
        refine ret_mark (h.dfr (D := D9)) rfl (results_tmp2 rfl _ _ _) ⟨AK, cK, A2, c2, kps, rfl, Hkf.out, ?_⟩
        exact (h.putDfr (D := D9)).to
  case stop => exact fun _ _ _ _ _ _ hf => hf.elim
end Go.Proofs.Ytionnlckjjojnaa
