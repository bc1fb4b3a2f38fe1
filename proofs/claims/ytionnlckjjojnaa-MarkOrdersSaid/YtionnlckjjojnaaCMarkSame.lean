/- The reference's Reach and Sweep; objects held against each other. -/
import Derived.Test.YtionnlckjjojnaaCMarkSweep
import Derived.Test.YtionnlckjjojnaaCMarkRefW
import Derived.Test.YtionnlckjjojnaaCIdsSame
namespace Go.Proofs.Ytionnlckjjojnaa
open Go.RowKit Go.Maps
set_option linter.unusedVariables false
set_option linter.unusedSimpArgs false

set_option maxRecDepth 100000 in
theorem ref_reach {S : Nat → Prop} {w0 w : World} {L F : List Ent} {A B : Option Addr} {c d : Nat} {ps : List ObAt} {roots : List Id} (h : St S w0 w L) [ka : HasObs obc L A ps.length c ps] [kb : Slot L (eSl B roots.length d 32 (roots.flatMap idc)) F] (hl : ps.length ≤ 1000000) (hls : ∀ p ∈ ps, p.links.length ≤ 1000000) (hr : roots.length ≤ 1000000) :
    Calls Try.prog 17 #[.slice A ps.length c, .slice B roots.length d] w fun e w' => ∃ A1 c1, e = .returned (.slice A1 (linksM (reachM (obsM ps) roots)).length c1) ∧ St S w0 w' (eOwn 33 32 A1 (linksM (reachM (obsM ps) roots)).length c1 ((linksM (reachM (obsM ps) roots)).flatMap idc) :: L) := by
  have hwl := walk_len (obsM ps) roots
  rw [List.length_map] at hwl
  have hrl : (reachM (obsM ps) roots).length ≤ 1000000 := by rw [reachM, List.length_map]; omega
  have Hrl := Lib.hid hrl
  have Hls := Lib.hid hls
  clear hwl hls hrl
  go_enter Try.func17, Try.ntmps17
  go_wp2_with (first
    | (go_at_call 13; refine (walk_ref (A := A) (B := B) (c := c) (dr := d) h hl Hls.out hr).mono ?_; clear h; rintro e w ⟨A1, c1, A2, c2, rfl, h⟩)
    | (go_at_call 39; refine (ref_links (A := A1) (c := c1) (l := reachM (obsM ps) roots) h Hrl.out).mono ?_; clear h; rintro e w ⟨A3, c3, rfl, h⟩))
  go_ret
  exact ⟨A3, c3, rfl, h.to⟩
set_option maxRecDepth 100000 in
set_option maxHeartbeats 4000000 in
theorem ref_sweep {S : Nat → Prop} {w0 w : World} {L F : List Ent} {A B : Option Addr} {c d : Nat} {ps : List ObAt} {roots : List Id} (h : St S w0 w L) [ka : HasObs obc L A ps.length c ps] [kb : Slot L (eSl B roots.length d 32 (roots.flatMap idc)) F] (hl : ps.length ≤ 1000000) (hls : ∀ p ∈ ps, p.links.length ≤ 1000000) (hr : roots.length ≤ 1000000) :
    Calls Try.prog 19 #[.slice A ps.length c, .slice B roots.length d] w fun e w' => ∃ A1 c1 A2 c2 kps, e = .returned (.tuple #[.slice A1 kps.length c1, .slice A2 (linksM (goneM (obsM ps) roots)).length c2]) ∧ obsM kps = keptM (obsM ps) roots ∧ (∀ p ∈ kps, p ∈ ps) ∧
      St S w0 w' (eOwn 44 34 A1 kps.length c1 (kps.flatMap obc) :: eOwn 33 32 A2 (linksM (goneM (obsM ps) roots)).length c2 ((linksM (goneM (obsM ps) roots)).flatMap idc) :: L) := by
  have hwl := walk_len (obsM ps) roots
  rw [List.length_map] at hwl
  have hrl : (linksM (reachM (obsM ps) roots)).length ≤ 1000000 := by
    exact Nat.le_trans (linksM_length _) (by rw [reachM, List.length_map]; omega)
  have Hrl := Lib.hid hrl
  have Hls := Lib.hid hls
  obtain ⟨M, hM⟩ : ∃ M, linksM (reachM (obsM ps) roots) = M := ⟨_, rfl⟩
  have HM := Lib.hid hM
  rw [hM] at Hrl
  have hml : M.length ≤ 1000000 := Hrl.out
  obtain ⟨R, hR⟩ : ∃ R : Ob → Bool, R = fun o => decide (o.id ∈ reachM (obsM ps) roots) := ⟨_, rfl⟩
  have HR := Lib.hid (fun o => congrFun hR o)
  have HRM : Hid (∀ p : ObAt, decide (p.id ∈ M) = R (obOf p)) := Lib.hid (fun p => by
    rw [HR.out, ← hM]
    exact decide_eq_decide.2 (linksM_mem _ _))
  clear hwl hls hrl hM hR Hrl
  go_enter Try.func19, Try.ntmps19
  go_wp2_with (first
    | (go_at_call 17; refine (ref_reach (A := A) (B := B) (c := c) (d := d) h hl Hls.out hr).mono ?_; rw [HM.out]; clear h; rintro e w ⟨AM, cM, rfl, h⟩))
  replace h := (h.nilRow 33 32).nilRow 44 34
  go_loopw [7, 8, 16] (fun kv gv iv wr => ∃ (k : Nat) (kps : List ObAt) (gs : List Id) (AK AG : Option Addr) (cK cG : Nat), kv = .slice AK kps.length cK ∧ gv = .slice AG gs.length cG ∧ iv = .int .i64 (k : Int) ∧ k ≤ ps.length ∧ kps.length ≤ k ∧ gs.length ≤ k ∧ Hid (∀ p ∈ kps, p ∈ ps) ∧ Hid (obsM kps = (obsM (ps.take k)).filter R) ∧ Hid (gs = ((obsM (ps.take k)).filter fun o => !R o).map (·.id)) ∧
      St S w0 wr (eOwn 44 34 AK kps.length cK (kps.flatMap obc) :: eOwn 33 32 AG gs.length cG (gs.flatMap idc) :: eOwn 33 32 AM M.length cM (M.flatMap idc) :: L)) (fun _ _ iv _ => ps.length - (intOf iv).toNat)
  case atStart => exact ⟨0, [], [], none, none, 0, 0, rfl, rfl, rfl, Nat.zero_le _, Nat.zero_le _, Nat.zero_le _, Lib.hid (fun p hp => by cases hp), Lib.hid (by simp), Lib.hid (by simp), h⟩
  case round =>
    clear h
    obtain ⟨k, kps, gs, AK, AG, cK, cG, rfl, rfl, rfl, hk, hkk, hgk, Hin, Hkp, Hgs, h⟩ := hrel
    by_cases hkl : k < ps.length
    · have f2 : (k : Int) < (ps.length : Int) := by omega
      have t1 : ((k : Int)).toNat = k := by omega
      obtain ⟨p, hp⟩ : ∃ p, ps[k] = p := ⟨_, rfl⟩
      have hpm : p ∈ ps := by rw [← hp]; exact List.getElem_mem _
      obtain ⟨b, off, rfl, _⟩ := (h.obsAt obc A ps.length c).1.pos (by omega)
      have hcs : ∀ {w}, Sl w (some ⟨b, off, none⟩) ps.length c 34 (ps.flatMap obc) → Cells w b (off + k * 34) (obc p) := fun hs => by rw [← hp]; exact hs.elemAt obc_length hkl (by omega)
      have htk : ps.take (k + 1) = ps.take k ++ [p] := by rw [List.take_succ_eq_append_getElem hkl, hp]
      have Hin2 : Hid (∀ q ∈ kps ++ [p], q ∈ ps) := Lib.hid (fun q hq => by
        rcases List.mem_append.1 hq with hq | hq
        · exact Hin.out q hq
        · rw [List.mem_singleton.1 hq]; exact hpm)
      have Hk2 : Hid (obsM (kps ++ (if R (obOf p) then [p] else [])) = (obsM (ps.take (k + 1))).filter R) := Lib.hid (by
        rw [htk, obs_snoc, List.filter_append, ← Hkp.out]
        by_cases hRp : R (obOf p) = true
        · simp [hRp, obsM]
        · simp [hRp, obsM])
      have Hg2 : Hid (gs ++ (if R (obOf p) then [] else [p.id]) = ((obsM (ps.take (k + 1))).filter fun o => !R o).map (·.id)) := Lib.hid (by
        rw [htk, obs_snoc, List.filter_append, List.map_append, ← Hgs.out]
        by_cases hRp : R (obOf p) = true
        · simp [hRp]
        · rw [if_neg hRp, List.filter_cons, if_pos (by simpa using hRp)]; simp [obOf])
      have Hhas := Lib.hid (HRM.out p)
      clear hp htk
      by_cases hRt : R (obOf p) = true
      · rw [if_pos hRt] at Hk2 Hg2
        rw [List.append_nil] at Hg2
        rw [hRt] at Hhas
        clear hRt
        obtain ⟨pA, pn, pc, pi, pl, px⟩ := p
        simp only at Hhas
        have hrx : Row (u8s pi.1) 32 := Row.u32 pi
        go_wp2_with (first
          | (refine wl_at 19 rfl ?_; refine wl_reads rfl (ex_load_at _ _ rfl b (off + k * 34) rfl ((c_api_Object (u8s pi.1) (.slice pA pn pc) (.int .i64 px))) (obc_length ⟨pA, pn, pc, pi, pl, px⟩) (hcs (h.obsAt obc (some ⟨b, off, none⟩) ps.length c).1)) ?_)
          | (refine wl_at 10 rfl ?_; refine wl_runs rfl (ex_alloc h 44 rfl) ?_; clear h; rintro _ w ⟨g10, rfl, h⟩)
          | (refine wl_none rfl ?_; refine wl_runs rfl (ex_store h _ _ _ rfl _ _ rfl ((c_api_Object (u8s pi.1) (.slice pA pn pc) (.int .i64 px))) rfl) ?_; clear h; rintro _ w ⟨rfl, h⟩; try dsimp only [Act.put])
          | (refine wl_at 22 rfl ?_; refine wl_reads rfl (ex_loadv h _ _ rfl _ _ rfl) ?_)
          | (go_at_call 34; refine (has_ref (A := AM) (n := M.length) (c := cM) (l := M) (x := pi) h (by omega)).mono ?_; rw [Hhas.out]; clear h; rintro e w ⟨rfl, h⟩)
          | (refine wl_at 25 rfl ?_; refine wl_reads rfl (ex_loadv h _ _ rfl _ _ rfl) ?_)
          | (refine wl_at 26 rfl ?_; refine wl_runs rfl (ex_slice1 h _ _ rfl ((c_api_Object (u8s pi.1) (.slice pA pn pc) (.int .i64 px))) rfl) ?_; clear h; rintro _ w ⟨gq, rfl, h⟩)
          | (refine wl_at 27 rfl ?_; refine wl_runs rfl (ex_append h _ _ _ rfl AK rfl (some ⟨gq, 0, none⟩) 1 1 rfl (h.slBox gq) (inferInstance : Row ((c_api_Object (u8s pi.1) (.slice pA pn pc) (.int .i64 px))) 34).one (by simp [maxLen]; omega) (by omega)) ?_; clear h; rintro _ w ⟨AK2, cK2, rfl, h⟩))
        have e1 : kps.length + 1 = (kps ++ [(⟨pA, pn, pc, pi, pl, px⟩ : ObAt)]).length := by simp
        have e2 : kps.flatMap obc ++ (c_api_Object (u8s pi.1) (.slice pA pn pc) (.int .i64 px)) = (kps ++ [(⟨pA, pn, pc, pi, pl, px⟩ : ObAt)]).flatMap obc := by simp
        rw [e1, e2] at h
        refine ⟨⟨k + 1, kps ++ [⟨pA, pn, pc, pi, pl, px⟩], gs, AK2, AG, cK2, cG, by simp, rfl, by push_cast; rfl, by omega, by simp; omega, by omega, Hin2, Hk2, Hg2, h.to⟩, ?_⟩
        simp only [intOf]
        omega
      · have hRf : R (obOf p) = false := by simpa using hRt
        rw [if_neg hRt] at Hk2 Hg2
        rw [List.append_nil] at Hk2
        rw [hRf] at Hhas
        clear hRt hRf Hin2
        obtain ⟨pA, pn, pc, pi, pl, px⟩ := p
        simp only at Hhas
        have hrx : Row (u8s pi.1) 32 := Row.u32 pi
        have h1x := u8s_one pi.1
        go_wp2_with (first
          | (refine wl_at 19 rfl ?_; refine wl_reads rfl (ex_load_at _ _ rfl b (off + k * 34) rfl ((c_api_Object (u8s pi.1) (.slice pA pn pc) (.int .i64 px))) (obc_length ⟨pA, pn, pc, pi, pl, px⟩) (hcs (h.obsAt obc (some ⟨b, off, none⟩) ps.length c).1)) ?_)
          | (refine wl_at 10 rfl ?_; refine wl_runs rfl (ex_alloc h 44 rfl) ?_; clear h; rintro _ w ⟨g10, rfl, h⟩)
          | (refine wl_none rfl ?_; refine wl_runs rfl (ex_store h _ _ _ rfl _ _ rfl ((c_api_Object (u8s pi.1) (.slice pA pn pc) (.int .i64 px))) rfl) ?_; clear h; rintro _ w ⟨rfl, h⟩; try dsimp only [Act.put])
          | (refine wl_at 22 rfl ?_; refine wl_reads rfl (ex_loadv h _ _ rfl _ _ rfl) ?_)
          | (go_at_call 34; refine (has_ref (A := AM) (n := M.length) (c := cM) (l := M) (x := pi) h (by omega)).mono ?_; rw [Hhas.out]; clear h; rintro e w ⟨rfl, h⟩)
          | (refine wl_at 30 rfl ?_; refine wl_reads rfl (ex_loadv h _ _ rfl _ _ rfl) ?_)
          | (refine wl_at 31 rfl ?_; refine wl_runs rfl (ex_slice1 h _ _ rfl (u8s pi.1) rfl) ?_; clear h; rintro _ w ⟨gq, rfl, h⟩)
          | (refine wl_at 32 rfl ?_; refine wl_runs rfl (ex_append h _ _ _ rfl AG rfl (some ⟨gq, 0, none⟩) 1 1 rfl (h.slBox gq) h1x (by simp [maxLen]; omega) (by omega)) ?_; clear h; rintro _ w ⟨AG2, cG2, rfl, h⟩))
        have e1 : gs.length + 1 = (gs ++ [pi]).length := by simp
        have e2 : gs.flatMap idc ++ u8s pi.1 = (gs ++ [pi]).flatMap idc := by simp [idc]
        rw [e1, e2] at h
        refine ⟨⟨k + 1, kps, gs ++ [pi], AK, AG2, cK, cG2, rfl, by simp, by push_cast; rfl, by omega, by omega, by simp; omega, Hin, Hk2, Hg2, h.to⟩, ?_⟩
        simp only [intOf]
        omega
    · obtain rfl : k = ps.length := by omega
      have hkk2 : ¬ ((ps.length : Int) < (ps.length : Int)) := by omega
      have Hkf : Hid (obsM kps = keptM (obsM ps) roots) := Lib.hid (by
        rw [Hkp.out, List.take_length, keptM]
        congr 1
        funext o
        exact HR.out o)
      have Hgf : Hid (gs = goneM (obsM ps) roots) := Lib.hid (by
        rw [Hgs.out, List.take_length, goneM]
        congr 2
        funext o
        rw [HR.out o])
      clear hkl hk Hkp Hgs
      go_wp2_with (first
        | (go_at_call 39; refine (ref_links (A := AG) (n := gs.length) (c := cG) (l := gs) h (by omega)).mono ?_; rw [Hgf.out]; clear h; rintro e w ⟨A2, c2, rfl, h⟩))
      go_ret2
      exact ⟨AK, cK, A2, c2, kps, rfl, Hkf.out, Hin.out, h.to⟩

theorem same_ids_step {w : World} {A B : Option Addr} {n c m d : Nat} {l k : List Id} (h : Sl w A n c 32 (l.flatMap idc)) (h' : Sl w B m d 32 (k.flatMap idc)) (hb : l.length ≤ 1000000000) :
    Calls Try.prog 15 #[.slice A n c, .slice B m d] w fun e w' => e = .returned (.bool (decide (l = k))) ∧ Step (fun _ => False) w w' := by
  refine (same_ids h h' hb).mono ?_
  rintro e w' ⟨h1, q, rfl⟩
  exact ⟨h1, (Step.refl _ _).drewN q⟩
instance decOb : DecidableEq Ob := fun a b => decidable_of_iff (a.id = b.id ∧ a.links = b.links ∧ a.size = b.size) ⟨fun h => by
  obtain ⟨a1, a2, a3⟩ := a
  obtain ⟨b1, b2, b3⟩ := b
  simp only at h
  obtain ⟨rfl, rfl, rfl⟩ := h
  rfl, fun h => by subst h; exact ⟨rfl, rfl, rfl⟩⟩
theorem obs_at {l m : List ObAt} {k : Nat} (hl : k < l.length) (hm : k < m.length) (h : obOf l[k] ≠ obOf m[k]) : obsM l ≠ obsM m := fun e => h (by
  have := congrArg (fun x : List Ob => x[k]?) e
  simpa [obsM, hl, hm] using this)
theorem obs_all {l m : List ObAt} (hl : l.length = m.length) (h : ∀ k, k < l.length → (obsM l)[k]? = (obsM m)[k]?) : obsM l = obsM m := by
  apply List.ext_getElem?
  intro k
  rcases Nat.lt_or_ge k l.length with h1 | h1
  · exact h k h1
  · rw [List.getElem?_eq_none (by simpa [obsM] using h1), List.getElem?_eq_none (by simpa [obsM, ← hl] using h1)]
theorem obs_get {l m : List ObAt} {k : Nat} (hl : k < l.length) (hm : k < m.length) (h : obOf l[k] = obOf m[k]) : (obsM l)[k]? = (obsM m)[k]? := by
  simp [obsM, hl, hm, h]
set_option maxRecDepth 100000 in
set_option maxHeartbeats 4000000 in
theorem same_objects {S : Nat → Prop} {w0 w : World} {L : List Ent} {A B : Option Addr} {c d : Nat} {xs ys : List ObAt} (h : St S w0 w L) [ka : HasObs obc L A xs.length c xs] [kb : HasObs obc L B ys.length d ys] (hl : xs.length ≤ 1000000) (hls : ∀ p ∈ xs, p.links.length ≤ 1000000) :
    Calls Try.prog 20 #[.slice A xs.length c, .slice B ys.length d] w fun r w' => r = .returned (.bool (decide (obsM xs = obsM ys))) ∧ St S w0 w' L := by
  have Hls := Lib.hid hls
  clear hls
  by_cases hlen : xs.length = ys.length
  · have f1 : ((xs.length : Int) != (ys.length : Int)) = false := by simp; omega
    have Hlen := Lib.hid hlen
    clear hlen
    go_enter Try.func20, Try.ntmps20
    go_wp2
    go_loopw [13] (fun iv wr => ∃ k : Nat, iv = .int .i64 (k : Int) ∧ k ≤ xs.length ∧ Hid (∀ j, j < k → (obsM xs)[j]? = (obsM ys)[j]?) ∧ St S w0 wr L) (fun iv _ => xs.length - (intOf iv).toNat)
    case atStart => exact ⟨0, rfl, Nat.zero_le _, Lib.hid (fun j hj => by omega), h⟩
    case round =>
      clear h
      obtain ⟨k, rfl, hk, Hal, h⟩ := hrel
      by_cases hkl : k < xs.length
      · have f2 : (k : Int) < (xs.length : Int) := by omega
        have hkm : k < ys.length := by rw [← Hlen.out]; exact hkl
        have f3 : (k : Int) < (ys.length : Int) := by omega
        have t1 : ((k : Int)).toNat = k := by omega
        obtain ⟨x, hx⟩ : ∃ x, xs[k] = x := ⟨_, rfl⟩
        obtain ⟨y, hy⟩ : ∃ y, ys[k] = y := ⟨_, rfl⟩
        have hxm : x ∈ xs := by rw [← hx]; exact List.getElem_mem _
        have hym : y ∈ ys := by rw [← hy]; exact List.getElem_mem _
        have hxl := Hls.out x hxm
        obtain ⟨b, off, rfl, _⟩ := (h.obsAt obc A xs.length c).1.pos (by omega)
        obtain ⟨b2, off2, rfl, _⟩ := (h.obsAt obc B ys.length d).1.pos (by omega)
        have hcx : ∀ w, Sl w (some ⟨b, off, none⟩) xs.length c 34 (xs.flatMap obc) → Cells w b (off + k * 34) (obc x) := fun w hs => by rw [← hx]; exact hs.elemAt obc_length hkl (by omega)
        have hcy : ∀ w, Sl w (some ⟨b2, off2, none⟩) ys.length d 34 (ys.flatMap obc) → Cells w b2 (off2 + k * 34) (obc y) := fun w hs => by rw [← hy]; exact hs.elemAt obc_length hkm (by omega)
        have Hx1 := Lib.hid (fun w hs => cells_id (hcx w hs))
        have Hy1 := Lib.hid (fun w hs => cells_id (hcy w hs))
        have Hx2 := Lib.hid (fun w hs => cell_links (hcx w hs))
        have Hy2 := Lib.hid (fun w hs => cell_links (hcy w hs))
        have Hx3 := Lib.hid (fun w hs => cell_size (hcx w hs))
        have Hy3 := Lib.hid (fun w hs => cell_size (hcy w hs))
        have hlx : ∀ {w}, St S w0 w L → Sl w x.A x.n x.c 32 (x.links.flatMap idc) := fun h => (h.obsAt obc (some ⟨b, off, none⟩) xs.length c).2 x hxm
        have hly : ∀ {w}, St S w0 w L → Sl w y.A y.n y.c 32 (y.links.flatMap idc) := fun h => (h.obsAt obc (some ⟨b2, off2, none⟩) ys.length d).2 y hym
        have Hlx := Lib.hid (fun w => hlx (w := w))
        have Hly := Lib.hid (fun w => hly (w := w))
        have Hxl := Lib.hid hxl
        have hob : obOf x = obOf y ↔ x.id = y.id ∧ x.links = y.links ∧ x.x = y.x := by simp [obOf]
        have hne : ¬ (x.id = y.id ∧ x.links = y.links ∧ x.x = y.x) → obsM xs ≠ obsM ys := fun hh => obs_at hkl hkm (by rw [hx, hy]; exact fun e => hh (hob.1 e))
        have Hnx : Hid (x.id = y.id ∧ x.links = y.links ∧ x.x = y.x → ∀ j, j < k + 1 → (obsM xs)[j]? = (obsM ys)[j]?) := Lib.hid (fun e j h2 => by
          rcases Nat.lt_succ_iff_lt_or_eq.1 h2 with h3 | rfl
          · exact Hal.out j h3
          · exact obs_get hkl hkm (by rw [hx, hy]; exact hob.2 e))
        clear hcx hcy hlx hly hx hy hxl hob
        obtain ⟨xA, xn, xc, xi, xl, xx⟩ := x
        obtain ⟨yA, yn, yc, yi, yl, yx⟩ := y
        simp only at hne Hnx Hx1 Hy1 Hx2 Hy2 Hx3 Hy3 Hlx Hly Hxl
        have q1 := Lib.hid (show (u8s xi.1).length = 32 by rw [u8s_length, xi.2])
        have q2 := Lib.hid (show (u8s yi.1).length = 32 by rw [u8s_length, yi.2])
        by_cases h1 : xi = yi
        · have e1 : (!(xi.1 == yi.1)) = false := by rw [h1]; simp
          by_cases h2 : xx = yx
          · have e2 : (xx != yx) = false := by rw [h2]; simp
            by_cases h3 : xl = yl
            · have Hal2 := Lib.hid (Hnx.out ⟨h1, h3, h2⟩)
              have Hsame : Hid (decide (xl = yl) = true) := Lib.hid (decide_eq_true h3)
              clear hne Hnx h1 h2 h3
              go_upto_region 6 with fail
              refine wp_region_K 38 (fun w' => St _ _ w' _) (by kernel_rfl) h.drew ?_; replace h := h.drew
              refine wpAnyK_pure 16 (v := ?_) (i := 0) (fuel := 37) rfl rfl (by kernel_rfl) (by kernel_rfl) (by kernel_rfl) (by decide) (fun _ _ _ h => h) (Or.inl ⟨by rfl, fun w _ => ?_⟩) ?_; rotate_left; (go_simp; with_reducible rfl); simp only [Act.put, List.setIfInBounds_toArray, List.set_cons_zero, List.set_cons_succ]
              refine wpAnyK_pure 17 (v := ?_) (i := 1) (fuel := 36) rfl rfl (by kernel_rfl) (by kernel_rfl) (by kernel_rfl) (by decide) (fun _ _ _ h => h) (Or.inl ⟨by rfl, fun w _ => ?_⟩) ?_; rotate_left; (go_simp; with_reducible rfl); simp only [Act.put, List.setIfInBounds_toArray, List.set_cons_zero, List.set_cons_succ]
              refine wpAnyK_pure 18 (v := ?_) (i := 2) (fuel := 35) rfl rfl (by kernel_rfl) (by kernel_rfl) (by kernel_rfl) (by decide) (fun _ _ _ h => h) (Or.inl ⟨by rfl, fun w _ => ?_⟩) ?_; rotate_left; (go_simp; with_reducible rfl); simp only [Act.put, List.setIfInBounds_toArray, List.set_cons_zero, List.set_cons_succ]
              refine wpAnyK_pure 19 (v := ?_) (i := 3) (fuel := 34) rfl rfl (by kernel_rfl) (by kernel_rfl) (by kernel_rfl) (by decide) (fun _ _ _ h => h) (Or.inl ⟨by rfl, fun w _ => ?_⟩) ?_; rotate_left; (go_simp; with_reducible rfl); simp only [Act.put, List.setIfInBounds_toArray, List.set_cons_zero, List.set_cons_succ]
              refine wpAnyK_load 20 (i := 4) (fuel := 33) rfl rfl (by kernel_rfl) (by kernel_rfl) (by kernel_rfl) (.inr (by decide)) (by decide) (fun _ _ _ h => h) rfl (fun w h => ex_load_at _ _ rfl b (off + k * 34) rfl (u8s xi.1) q1.out (Hx1.out _ (h.obsAt obc (some ⟨b, off, none⟩) xs.length c).1)) ?_; simp only [Act.put, List.setIfInBounds_toArray, List.set_cons_zero, List.set_cons_succ]
              refine wpAnyK_pure 21 (v := ?_) (i := 5) (fuel := 32) rfl rfl (by kernel_rfl) (by kernel_rfl) (by kernel_rfl) (by decide) (fun _ _ _ h => h) (Or.inl ⟨by rfl, fun w _ => ?_⟩) ?_; rotate_left; (go_simp; with_reducible rfl); simp only [Act.put, List.setIfInBounds_toArray, List.set_cons_zero, List.set_cons_succ]
              refine wpAnyK_pure 22 (v := ?_) (i := 6) (fuel := 31) rfl rfl (by kernel_rfl) (by kernel_rfl) (by kernel_rfl) (by decide) (fun _ _ _ h => h) (Or.inl ⟨by rfl, fun w _ => ?_⟩) ?_; rotate_left; (go_simp; with_reducible rfl); simp only [Act.put, List.setIfInBounds_toArray, List.set_cons_zero, List.set_cons_succ]
              refine wpAnyK_pure 23 (v := ?_) (i := 7) (fuel := 30) rfl rfl (by kernel_rfl) (by kernel_rfl) (by kernel_rfl) (by decide) (fun _ _ _ h => h) (Or.inl ⟨by rfl, fun w _ => ?_⟩) ?_; rotate_left; (go_simp; with_reducible rfl); simp only [Act.put, List.setIfInBounds_toArray, List.set_cons_zero, List.set_cons_succ]
              refine wpAnyK_pure 24 (v := ?_) (i := 8) (fuel := 29) rfl rfl (by kernel_rfl) (by kernel_rfl) (by kernel_rfl) (by decide) (fun _ _ _ h => h) (Or.inl ⟨by rfl, fun w _ => ?_⟩) ?_; rotate_left; (go_simp; with_reducible rfl); simp only [Act.put, List.setIfInBounds_toArray, List.set_cons_zero, List.set_cons_succ]
              refine wpAnyK_load 25 (i := 9) (fuel := 28) rfl rfl (by kernel_rfl) (by kernel_rfl) (by kernel_rfl) (.inr (by decide)) (by decide) (fun _ _ _ h => h) rfl (fun w h => ex_load_at _ _ rfl b2 (off2 + k * 34) rfl (u8s yi.1) q2.out (Hy1.out _ (h.obsAt obc (some ⟨b2, off2, none⟩) ys.length d).1)) ?_; simp only [Act.put, List.setIfInBounds_toArray, List.set_cons_zero, List.set_cons_succ]
              refine wpAnyK_load 26 (i := 10) (fuel := 27) rfl rfl (by kernel_rfl) (by kernel_rfl) (by kernel_rfl) (.inr (by decide)) (by decide) (fun _ _ _ h => h) rfl (fun w h => ex_neq _ _ _ _ rfl xi.1 yi.1 rfl rfl xi.2 yi.2 false e1) ?_; simp only [Act.put, List.setIfInBounds_toArray, List.set_cons_zero, List.set_cons_succ]
              refine wpAnyK_pure 27 (v := ?_) (i := 11) (fuel := 26) rfl rfl (by kernel_rfl) (by kernel_rfl) (by kernel_rfl) (by decide) (fun _ _ _ h => h) (Or.inl ⟨by rfl, fun w _ => ?_⟩) ?_; rotate_left; (go_simp; with_reducible rfl); simp only [Act.put, List.setIfInBounds_toArray, List.set_cons_zero, List.set_cons_succ]
              refine wpAnyK_pure 28 (v := ?_) (i := 12) (fuel := 25) rfl rfl (by kernel_rfl) (by kernel_rfl) (by kernel_rfl) (by decide) (fun _ _ _ h => h) (Or.inl ⟨by rfl, fun w _ => ?_⟩) ?_; rotate_left; (go_simp; with_reducible rfl); simp only [Act.put, List.setIfInBounds_toArray, List.set_cons_zero, List.set_cons_succ]
              refine wpAnyK_pure 29 (v := ?_) (i := 13) (fuel := 24) rfl rfl (by kernel_rfl) (by kernel_rfl) (by kernel_rfl) (by decide) (fun _ _ _ h => h) (Or.inl ⟨by rfl, fun w _ => ?_⟩) ?_; rotate_left; (go_simp; with_reducible rfl); simp only [Act.put, List.setIfInBounds_toArray, List.set_cons_zero, List.set_cons_succ]
              refine wpAnyK_pure 30 (v := ?_) (i := 14) (fuel := 23) rfl rfl (by kernel_rfl) (by kernel_rfl) (by kernel_rfl) (by decide) (fun _ _ _ h => h) (Or.inl ⟨by rfl, fun w _ => ?_⟩) ?_; rotate_left; (go_simp; with_reducible rfl); simp only [Act.put, List.setIfInBounds_toArray, List.set_cons_zero, List.set_cons_succ]
              refine wpAnyK_pure 31 (v := ?_) (i := 15) (fuel := 22) rfl rfl (by kernel_rfl) (by kernel_rfl) (by kernel_rfl) (by decide) (fun _ _ _ h => h) (Or.inl ⟨by rfl, fun w _ => ?_⟩) ?_; rotate_left; (go_simp; with_reducible rfl); simp only [Act.put, List.setIfInBounds_toArray, List.set_cons_zero, List.set_cons_succ]
              refine wpAnyK_load 32 (i := 16) (fuel := 21) rfl rfl (by kernel_rfl) (by kernel_rfl) (by kernel_rfl) (.inr (by decide)) (by decide) (fun _ _ _ h => h) rfl (fun w h => ex_load1_at _ _ rfl b (off + k * 34 + 33) rfl (.int .i64 xx) (Hx3.out _ (h.obsAt obc (some ⟨b, off, none⟩) xs.length c).1)) ?_; simp only [Act.put, List.setIfInBounds_toArray, List.set_cons_zero, List.set_cons_succ]
              refine wpAnyK_pure 33 (v := ?_) (i := 17) (fuel := 20) rfl rfl (by kernel_rfl) (by kernel_rfl) (by kernel_rfl) (by decide) (fun _ _ _ h => h) (Or.inl ⟨by rfl, fun w _ => ?_⟩) ?_; rotate_left; (go_simp; with_reducible rfl); simp only [Act.put, List.setIfInBounds_toArray, List.set_cons_zero, List.set_cons_succ]
              refine wpAnyK_pure 34 (v := ?_) (i := 18) (fuel := 19) rfl rfl (by kernel_rfl) (by kernel_rfl) (by kernel_rfl) (by decide) (fun _ _ _ h => h) (Or.inl ⟨by rfl, fun w _ => ?_⟩) ?_; rotate_left; (go_simp; with_reducible rfl); simp only [Act.put, List.setIfInBounds_toArray, List.set_cons_zero, List.set_cons_succ]
              refine wpAnyK_pure 35 (v := ?_) (i := 19) (fuel := 18) rfl rfl (by kernel_rfl) (by kernel_rfl) (by kernel_rfl) (by decide) (fun _ _ _ h => h) (Or.inl ⟨by rfl, fun w _ => ?_⟩) ?_; rotate_left; (go_simp; with_reducible rfl); simp only [Act.put, List.setIfInBounds_toArray, List.set_cons_zero, List.set_cons_succ]
              refine wpAnyK_pure 36 (v := ?_) (i := 20) (fuel := 17) rfl rfl (by kernel_rfl) (by kernel_rfl) (by kernel_rfl) (by decide) (fun _ _ _ h => h) (Or.inl ⟨by rfl, fun w _ => ?_⟩) ?_; rotate_left; (go_simp; with_reducible rfl); simp only [Act.put, List.setIfInBounds_toArray, List.set_cons_zero, List.set_cons_succ]
              refine wpAnyK_load 37 (i := 21) (fuel := 16) rfl rfl (by kernel_rfl) (by kernel_rfl) (by kernel_rfl) (.inr (by decide)) (by decide) (fun _ _ _ h => h) rfl (fun w h => ex_load1_at _ _ rfl b2 (off2 + k * 34 + 33) rfl (.int .i64 yx) (Hy3.out _ (h.obsAt obc (some ⟨b2, off2, none⟩) ys.length d).1)) ?_; simp only [Act.put, List.setIfInBounds_toArray, List.set_cons_zero, List.set_cons_succ]
              refine wpAnyK_pure 38 (v := ?_) (i := 22) (fuel := 15) rfl rfl (by kernel_rfl) (by kernel_rfl) (by kernel_rfl) (by decide) (fun _ _ _ h => h) (Or.inl ⟨by rfl, fun w _ => ?_⟩) ?_; rotate_left; (go_simp; with_reducible rfl); simp only [Act.put, List.setIfInBounds_toArray, List.set_cons_zero, List.set_cons_succ]
              refine wpAnyK_pure 39 (v := ?_) (i := 23) (fuel := 14) rfl rfl (by kernel_rfl) (by kernel_rfl) (by kernel_rfl) (by decide) (fun _ _ _ h => h) (Or.inl ⟨by rfl, fun w _ => ?_⟩) ?_; rotate_left; (go_simp; with_reducible rfl); simp only [Act.put, List.setIfInBounds_toArray, List.set_cons_zero, List.set_cons_succ]
              refine wpAnyK_pure 40 (v := ?_) (i := 24) (fuel := 13) rfl rfl (by kernel_rfl) (by kernel_rfl) (by kernel_rfl) (by decide) (fun _ _ _ h => h) (Or.inl ⟨by rfl, fun w _ => ?_⟩) ?_; rotate_left; (go_simp; with_reducible rfl); simp only [Act.put, List.setIfInBounds_toArray, List.set_cons_zero, List.set_cons_succ]
              refine wpAnyK_pure 41 (v := ?_) (i := 25) (fuel := 12) rfl rfl (by kernel_rfl) (by kernel_rfl) (by kernel_rfl) (by decide) (fun _ _ _ h => h) (Or.inl ⟨by rfl, fun w _ => ?_⟩) ?_; rotate_left; (go_simp; with_reducible rfl); simp only [Act.put, List.setIfInBounds_toArray, List.set_cons_zero, List.set_cons_succ]
              refine wpAnyK_pure 42 (v := ?_) (i := 26) (fuel := 11) rfl rfl (by kernel_rfl) (by kernel_rfl) (by kernel_rfl) (by decide) (fun _ _ _ h => h) (Or.inl ⟨by rfl, fun w _ => ?_⟩) ?_; rotate_left; (go_simp; with_reducible rfl); simp only [Act.put, List.setIfInBounds_toArray, List.set_cons_zero, List.set_cons_succ]
              refine wpAnyK_pure 43 (v := ?_) (i := 27) (fuel := 10) rfl rfl (by kernel_rfl) (by kernel_rfl) (by kernel_rfl) (by decide) (fun _ _ _ h => h) (Or.inl ⟨by rfl, fun w _ => ?_⟩) ?_; rotate_left; (go_simp; with_reducible rfl); simp only [Act.put, List.setIfInBounds_toArray, List.set_cons_zero, List.set_cons_succ]
              refine wpAnyK_pure 44 (v := ?_) (i := 28) (fuel := 9) rfl rfl (by kernel_rfl) (by kernel_rfl) (by kernel_rfl) (by decide) (fun _ _ _ h => h) (Or.inl ⟨by rfl, fun w _ => ?_⟩) ?_; rotate_left; (go_simp; with_reducible rfl); simp only [Act.put, List.setIfInBounds_toArray, List.set_cons_zero, List.set_cons_succ]
              refine wpAnyK_load 45 (i := 29) (fuel := 8) rfl rfl (by kernel_rfl) (by kernel_rfl) (by kernel_rfl) (.inr (by decide)) (by decide) (fun _ _ _ h => h) rfl (fun w h => ex_load1_at _ _ rfl b (off + k * 34 + 32) rfl (.slice xA xn xc) (Hx2.out _ (h.obsAt obc (some ⟨b, off, none⟩) xs.length c).1)) ?_; simp only [Act.put, List.setIfInBounds_toArray, List.set_cons_zero, List.set_cons_succ]
              refine wpAnyK_pure 46 (v := ?_) (i := 30) (fuel := 7) rfl rfl (by kernel_rfl) (by kernel_rfl) (by kernel_rfl) (by decide) (fun _ _ _ h => h) (Or.inl ⟨by rfl, fun w _ => ?_⟩) ?_; rotate_left; (go_simp; with_reducible rfl); simp only [Act.put, List.setIfInBounds_toArray, List.set_cons_zero, List.set_cons_succ]
              refine wpAnyK_pure 47 (v := ?_) (i := 31) (fuel := 6) rfl rfl (by kernel_rfl) (by kernel_rfl) (by kernel_rfl) (by decide) (fun _ _ _ h => h) (Or.inl ⟨by rfl, fun w _ => ?_⟩) ?_; rotate_left; (go_simp; with_reducible rfl); simp only [Act.put, List.setIfInBounds_toArray, List.set_cons_zero, List.set_cons_succ]
              refine wpAnyK_pure 48 (v := ?_) (i := 32) (fuel := 5) rfl rfl (by kernel_rfl) (by kernel_rfl) (by kernel_rfl) (by decide) (fun _ _ _ h => h) (Or.inl ⟨by rfl, fun w _ => ?_⟩) ?_; rotate_left; (go_simp; with_reducible rfl); simp only [Act.put, List.setIfInBounds_toArray, List.set_cons_zero, List.set_cons_succ]
              refine wpAnyK_pure 49 (v := ?_) (i := 33) (fuel := 4) rfl rfl (by kernel_rfl) (by kernel_rfl) (by kernel_rfl) (by decide) (fun _ _ _ h => h) (Or.inl ⟨by rfl, fun w _ => ?_⟩) ?_; rotate_left; (go_simp; with_reducible rfl); simp only [Act.put, List.setIfInBounds_toArray, List.set_cons_zero, List.set_cons_succ]
              refine wpAnyK_load 50 (i := 34) (fuel := 3) rfl rfl (by kernel_rfl) (by kernel_rfl) (by kernel_rfl) (.inr (by decide)) (by decide) (fun _ _ _ h => h) rfl (fun w h => ex_load1_at _ _ rfl b2 (off2 + k * 34 + 32) rfl (.slice yA yn yc) (Hy2.out _ (h.obsAt obc (some ⟨b2, off2, none⟩) ys.length d).1)) ?_; simp only [Act.put, List.setIfInBounds_toArray, List.set_cons_zero, List.set_cons_succ]
              refine wpAnyK_one (i := 35) (fuel := 2) rfl (by kernel_rfl) rfl (fun K hK => ?_)
              (go_simp; go_wp2_with (go_at_call 15; refine (same_ids_step (Hlx.out _ h) (Hly.out _ h) (by have := Hxl.out; omega)).mono ?_; rw [Hsame.out]; rintro r w ⟨rfl, hs⟩; replace h := h.quiet hs; clear hs)); refine hK.out _ _ (fun _ => h.to) ?_; clear hK K
              try simp only [Act.put, List.setIfInBounds_toArray, List.set_cons_zero, List.set_cons_succ]
              refine wpAnyK_pure 52 (v := ?_) (i := 36) (fuel := 1) rfl rfl (by kernel_rfl) (by kernel_rfl) (by kernel_rfl) (by decide) (fun _ _ _ h => h) (Or.inl ⟨by rfl, fun w _ => ?_⟩) ?_; rotate_left; (go_simp; with_reducible rfl); simp only [Act.put, List.setIfInBounds_toArray, List.set_cons_zero, List.set_cons_succ]
              refine wpAnyK_pure 53 (v := ?_) (i := 37) (fuel := 0) rfl rfl (by kernel_rfl) (by kernel_rfl) (by kernel_rfl) (by decide) (fun _ _ _ h => h) (Or.inl ⟨by rfl, fun w _ => ?_⟩) ?_; rotate_left; (go_simp; with_reducible rfl); simp only [Act.put, List.setIfInBounds_toArray, List.set_cons_zero, List.set_cons_succ]
              refine wpAnyK_done (by kernel_rfl) ?_
              go_wp2
              refine ⟨⟨k + 1, by push_cast; rfl, by omega, Hal2, h.to⟩, ?_⟩
              simp only [intOf]
              omega
            · have Hd : Hid (decide (obsM xs = obsM ys) = false) := Lib.hid (decide_eq_false (hne (fun e => h3 e.2.1)))
              have Hsame : Hid (decide (xl = yl) = false) := Lib.hid (decide_eq_false h3)
              clear hne Hnx h1 h2 h3
              go_upto_region 6 with fail
              refine wp_region_K 38 (fun w' => St _ _ w' _) (by kernel_rfl) h.drew ?_; replace h := h.drew
              refine wpAnyK_pure 16 (v := ?_) (i := 0) (fuel := 37) rfl rfl (by kernel_rfl) (by kernel_rfl) (by kernel_rfl) (by decide) (fun _ _ _ h => h) (Or.inl ⟨by rfl, fun w _ => ?_⟩) ?_; rotate_left; (go_simp; with_reducible rfl); simp only [Act.put, List.setIfInBounds_toArray, List.set_cons_zero, List.set_cons_succ]
              refine wpAnyK_pure 17 (v := ?_) (i := 1) (fuel := 36) rfl rfl (by kernel_rfl) (by kernel_rfl) (by kernel_rfl) (by decide) (fun _ _ _ h => h) (Or.inl ⟨by rfl, fun w _ => ?_⟩) ?_; rotate_left; (go_simp; with_reducible rfl); simp only [Act.put, List.setIfInBounds_toArray, List.set_cons_zero, List.set_cons_succ]
              refine wpAnyK_pure 18 (v := ?_) (i := 2) (fuel := 35) rfl rfl (by kernel_rfl) (by kernel_rfl) (by kernel_rfl) (by decide) (fun _ _ _ h => h) (Or.inl ⟨by rfl, fun w _ => ?_⟩) ?_; rotate_left; (go_simp; with_reducible rfl); simp only [Act.put, List.setIfInBounds_toArray, List.set_cons_zero, List.set_cons_succ]
              refine wpAnyK_pure 19 (v := ?_) (i := 3) (fuel := 34) rfl rfl (by kernel_rfl) (by kernel_rfl) (by kernel_rfl) (by decide) (fun _ _ _ h => h) (Or.inl ⟨by rfl, fun w _ => ?_⟩) ?_; rotate_left; (go_simp; with_reducible rfl); simp only [Act.put, List.setIfInBounds_toArray, List.set_cons_zero, List.set_cons_succ]
              refine wpAnyK_load 20 (i := 4) (fuel := 33) rfl rfl (by kernel_rfl) (by kernel_rfl) (by kernel_rfl) (.inr (by decide)) (by decide) (fun _ _ _ h => h) rfl (fun w h => ex_load_at _ _ rfl b (off + k * 34) rfl (u8s xi.1) q1.out (Hx1.out _ (h.obsAt obc (some ⟨b, off, none⟩) xs.length c).1)) ?_; simp only [Act.put, List.setIfInBounds_toArray, List.set_cons_zero, List.set_cons_succ]
              refine wpAnyK_pure 21 (v := ?_) (i := 5) (fuel := 32) rfl rfl (by kernel_rfl) (by kernel_rfl) (by kernel_rfl) (by decide) (fun _ _ _ h => h) (Or.inl ⟨by rfl, fun w _ => ?_⟩) ?_; rotate_left; (go_simp; with_reducible rfl); simp only [Act.put, List.setIfInBounds_toArray, List.set_cons_zero, List.set_cons_succ]
              refine wpAnyK_pure 22 (v := ?_) (i := 6) (fuel := 31) rfl rfl (by kernel_rfl) (by kernel_rfl) (by kernel_rfl) (by decide) (fun _ _ _ h => h) (Or.inl ⟨by rfl, fun w _ => ?_⟩) ?_; rotate_left; (go_simp; with_reducible rfl); simp only [Act.put, List.setIfInBounds_toArray, List.set_cons_zero, List.set_cons_succ]
              refine wpAnyK_pure 23 (v := ?_) (i := 7) (fuel := 30) rfl rfl (by kernel_rfl) (by kernel_rfl) (by kernel_rfl) (by decide) (fun _ _ _ h => h) (Or.inl ⟨by rfl, fun w _ => ?_⟩) ?_; rotate_left; (go_simp; with_reducible rfl); simp only [Act.put, List.setIfInBounds_toArray, List.set_cons_zero, List.set_cons_succ]
              refine wpAnyK_pure 24 (v := ?_) (i := 8) (fuel := 29) rfl rfl (by kernel_rfl) (by kernel_rfl) (by kernel_rfl) (by decide) (fun _ _ _ h => h) (Or.inl ⟨by rfl, fun w _ => ?_⟩) ?_; rotate_left; (go_simp; with_reducible rfl); simp only [Act.put, List.setIfInBounds_toArray, List.set_cons_zero, List.set_cons_succ]
              refine wpAnyK_load 25 (i := 9) (fuel := 28) rfl rfl (by kernel_rfl) (by kernel_rfl) (by kernel_rfl) (.inr (by decide)) (by decide) (fun _ _ _ h => h) rfl (fun w h => ex_load_at _ _ rfl b2 (off2 + k * 34) rfl (u8s yi.1) q2.out (Hy1.out _ (h.obsAt obc (some ⟨b2, off2, none⟩) ys.length d).1)) ?_; simp only [Act.put, List.setIfInBounds_toArray, List.set_cons_zero, List.set_cons_succ]
              refine wpAnyK_load 26 (i := 10) (fuel := 27) rfl rfl (by kernel_rfl) (by kernel_rfl) (by kernel_rfl) (.inr (by decide)) (by decide) (fun _ _ _ h => h) rfl (fun w h => ex_neq _ _ _ _ rfl xi.1 yi.1 rfl rfl xi.2 yi.2 false e1) ?_; simp only [Act.put, List.setIfInBounds_toArray, List.set_cons_zero, List.set_cons_succ]
              refine wpAnyK_pure 27 (v := ?_) (i := 11) (fuel := 26) rfl rfl (by kernel_rfl) (by kernel_rfl) (by kernel_rfl) (by decide) (fun _ _ _ h => h) (Or.inl ⟨by rfl, fun w _ => ?_⟩) ?_; rotate_left; (go_simp; with_reducible rfl); simp only [Act.put, List.setIfInBounds_toArray, List.set_cons_zero, List.set_cons_succ]
              refine wpAnyK_pure 28 (v := ?_) (i := 12) (fuel := 25) rfl rfl (by kernel_rfl) (by kernel_rfl) (by kernel_rfl) (by decide) (fun _ _ _ h => h) (Or.inl ⟨by rfl, fun w _ => ?_⟩) ?_; rotate_left; (go_simp; with_reducible rfl); simp only [Act.put, List.setIfInBounds_toArray, List.set_cons_zero, List.set_cons_succ]
              refine wpAnyK_pure 29 (v := ?_) (i := 13) (fuel := 24) rfl rfl (by kernel_rfl) (by kernel_rfl) (by kernel_rfl) (by decide) (fun _ _ _ h => h) (Or.inl ⟨by rfl, fun w _ => ?_⟩) ?_; rotate_left; (go_simp; with_reducible rfl); simp only [Act.put, List.setIfInBounds_toArray, List.set_cons_zero, List.set_cons_succ]
              refine wpAnyK_pure 30 (v := ?_) (i := 14) (fuel := 23) rfl rfl (by kernel_rfl) (by kernel_rfl) (by kernel_rfl) (by decide) (fun _ _ _ h => h) (Or.inl ⟨by rfl, fun w _ => ?_⟩) ?_; rotate_left; (go_simp; with_reducible rfl); simp only [Act.put, List.setIfInBounds_toArray, List.set_cons_zero, List.set_cons_succ]
              refine wpAnyK_pure 31 (v := ?_) (i := 15) (fuel := 22) rfl rfl (by kernel_rfl) (by kernel_rfl) (by kernel_rfl) (by decide) (fun _ _ _ h => h) (Or.inl ⟨by rfl, fun w _ => ?_⟩) ?_; rotate_left; (go_simp; with_reducible rfl); simp only [Act.put, List.setIfInBounds_toArray, List.set_cons_zero, List.set_cons_succ]
              refine wpAnyK_load 32 (i := 16) (fuel := 21) rfl rfl (by kernel_rfl) (by kernel_rfl) (by kernel_rfl) (.inr (by decide)) (by decide) (fun _ _ _ h => h) rfl (fun w h => ex_load1_at _ _ rfl b (off + k * 34 + 33) rfl (.int .i64 xx) (Hx3.out _ (h.obsAt obc (some ⟨b, off, none⟩) xs.length c).1)) ?_; simp only [Act.put, List.setIfInBounds_toArray, List.set_cons_zero, List.set_cons_succ]
              refine wpAnyK_pure 33 (v := ?_) (i := 17) (fuel := 20) rfl rfl (by kernel_rfl) (by kernel_rfl) (by kernel_rfl) (by decide) (fun _ _ _ h => h) (Or.inl ⟨by rfl, fun w _ => ?_⟩) ?_; rotate_left; (go_simp; with_reducible rfl); simp only [Act.put, List.setIfInBounds_toArray, List.set_cons_zero, List.set_cons_succ]
              refine wpAnyK_pure 34 (v := ?_) (i := 18) (fuel := 19) rfl rfl (by kernel_rfl) (by kernel_rfl) (by kernel_rfl) (by decide) (fun _ _ _ h => h) (Or.inl ⟨by rfl, fun w _ => ?_⟩) ?_; rotate_left; (go_simp; with_reducible rfl); simp only [Act.put, List.setIfInBounds_toArray, List.set_cons_zero, List.set_cons_succ]
              refine wpAnyK_pure 35 (v := ?_) (i := 19) (fuel := 18) rfl rfl (by kernel_rfl) (by kernel_rfl) (by kernel_rfl) (by decide) (fun _ _ _ h => h) (Or.inl ⟨by rfl, fun w _ => ?_⟩) ?_; rotate_left; (go_simp; with_reducible rfl); simp only [Act.put, List.setIfInBounds_toArray, List.set_cons_zero, List.set_cons_succ]
              refine wpAnyK_pure 36 (v := ?_) (i := 20) (fuel := 17) rfl rfl (by kernel_rfl) (by kernel_rfl) (by kernel_rfl) (by decide) (fun _ _ _ h => h) (Or.inl ⟨by rfl, fun w _ => ?_⟩) ?_; rotate_left; (go_simp; with_reducible rfl); simp only [Act.put, List.setIfInBounds_toArray, List.set_cons_zero, List.set_cons_succ]
              refine wpAnyK_load 37 (i := 21) (fuel := 16) rfl rfl (by kernel_rfl) (by kernel_rfl) (by kernel_rfl) (.inr (by decide)) (by decide) (fun _ _ _ h => h) rfl (fun w h => ex_load1_at _ _ rfl b2 (off2 + k * 34 + 33) rfl (.int .i64 yx) (Hy3.out _ (h.obsAt obc (some ⟨b2, off2, none⟩) ys.length d).1)) ?_; simp only [Act.put, List.setIfInBounds_toArray, List.set_cons_zero, List.set_cons_succ]
              refine wpAnyK_pure 38 (v := ?_) (i := 22) (fuel := 15) rfl rfl (by kernel_rfl) (by kernel_rfl) (by kernel_rfl) (by decide) (fun _ _ _ h => h) (Or.inl ⟨by rfl, fun w _ => ?_⟩) ?_; rotate_left; (go_simp; with_reducible rfl); simp only [Act.put, List.setIfInBounds_toArray, List.set_cons_zero, List.set_cons_succ]
              refine wpAnyK_pure 39 (v := ?_) (i := 23) (fuel := 14) rfl rfl (by kernel_rfl) (by kernel_rfl) (by kernel_rfl) (by decide) (fun _ _ _ h => h) (Or.inl ⟨by rfl, fun w _ => ?_⟩) ?_; rotate_left; (go_simp; with_reducible rfl); simp only [Act.put, List.setIfInBounds_toArray, List.set_cons_zero, List.set_cons_succ]
              refine wpAnyK_pure 40 (v := ?_) (i := 24) (fuel := 13) rfl rfl (by kernel_rfl) (by kernel_rfl) (by kernel_rfl) (by decide) (fun _ _ _ h => h) (Or.inl ⟨by rfl, fun w _ => ?_⟩) ?_; rotate_left; (go_simp; with_reducible rfl); simp only [Act.put, List.setIfInBounds_toArray, List.set_cons_zero, List.set_cons_succ]
              refine wpAnyK_pure 41 (v := ?_) (i := 25) (fuel := 12) rfl rfl (by kernel_rfl) (by kernel_rfl) (by kernel_rfl) (by decide) (fun _ _ _ h => h) (Or.inl ⟨by rfl, fun w _ => ?_⟩) ?_; rotate_left; (go_simp; with_reducible rfl); simp only [Act.put, List.setIfInBounds_toArray, List.set_cons_zero, List.set_cons_succ]
              refine wpAnyK_pure 42 (v := ?_) (i := 26) (fuel := 11) rfl rfl (by kernel_rfl) (by kernel_rfl) (by kernel_rfl) (by decide) (fun _ _ _ h => h) (Or.inl ⟨by rfl, fun w _ => ?_⟩) ?_; rotate_left; (go_simp; with_reducible rfl); simp only [Act.put, List.setIfInBounds_toArray, List.set_cons_zero, List.set_cons_succ]
              refine wpAnyK_pure 43 (v := ?_) (i := 27) (fuel := 10) rfl rfl (by kernel_rfl) (by kernel_rfl) (by kernel_rfl) (by decide) (fun _ _ _ h => h) (Or.inl ⟨by rfl, fun w _ => ?_⟩) ?_; rotate_left; (go_simp; with_reducible rfl); simp only [Act.put, List.setIfInBounds_toArray, List.set_cons_zero, List.set_cons_succ]
              refine wpAnyK_pure 44 (v := ?_) (i := 28) (fuel := 9) rfl rfl (by kernel_rfl) (by kernel_rfl) (by kernel_rfl) (by decide) (fun _ _ _ h => h) (Or.inl ⟨by rfl, fun w _ => ?_⟩) ?_; rotate_left; (go_simp; with_reducible rfl); simp only [Act.put, List.setIfInBounds_toArray, List.set_cons_zero, List.set_cons_succ]
              refine wpAnyK_load 45 (i := 29) (fuel := 8) rfl rfl (by kernel_rfl) (by kernel_rfl) (by kernel_rfl) (.inr (by decide)) (by decide) (fun _ _ _ h => h) rfl (fun w h => ex_load1_at _ _ rfl b (off + k * 34 + 32) rfl (.slice xA xn xc) (Hx2.out _ (h.obsAt obc (some ⟨b, off, none⟩) xs.length c).1)) ?_; simp only [Act.put, List.setIfInBounds_toArray, List.set_cons_zero, List.set_cons_succ]
              refine wpAnyK_pure 46 (v := ?_) (i := 30) (fuel := 7) rfl rfl (by kernel_rfl) (by kernel_rfl) (by kernel_rfl) (by decide) (fun _ _ _ h => h) (Or.inl ⟨by rfl, fun w _ => ?_⟩) ?_; rotate_left; (go_simp; with_reducible rfl); simp only [Act.put, List.setIfInBounds_toArray, List.set_cons_zero, List.set_cons_succ]
              refine wpAnyK_pure 47 (v := ?_) (i := 31) (fuel := 6) rfl rfl (by kernel_rfl) (by kernel_rfl) (by kernel_rfl) (by decide) (fun _ _ _ h => h) (Or.inl ⟨by rfl, fun w _ => ?_⟩) ?_; rotate_left; (go_simp; with_reducible rfl); simp only [Act.put, List.setIfInBounds_toArray, List.set_cons_zero, List.set_cons_succ]
              refine wpAnyK_pure 48 (v := ?_) (i := 32) (fuel := 5) rfl rfl (by kernel_rfl) (by kernel_rfl) (by kernel_rfl) (by decide) (fun _ _ _ h => h) (Or.inl ⟨by rfl, fun w _ => ?_⟩) ?_; rotate_left; (go_simp; with_reducible rfl); simp only [Act.put, List.setIfInBounds_toArray, List.set_cons_zero, List.set_cons_succ]
              refine wpAnyK_pure 49 (v := ?_) (i := 33) (fuel := 4) rfl rfl (by kernel_rfl) (by kernel_rfl) (by kernel_rfl) (by decide) (fun _ _ _ h => h) (Or.inl ⟨by rfl, fun w _ => ?_⟩) ?_; rotate_left; (go_simp; with_reducible rfl); simp only [Act.put, List.setIfInBounds_toArray, List.set_cons_zero, List.set_cons_succ]
              refine wpAnyK_load 50 (i := 34) (fuel := 3) rfl rfl (by kernel_rfl) (by kernel_rfl) (by kernel_rfl) (.inr (by decide)) (by decide) (fun _ _ _ h => h) rfl (fun w h => ex_load1_at _ _ rfl b2 (off2 + k * 34 + 32) rfl (.slice yA yn yc) (Hy2.out _ (h.obsAt obc (some ⟨b2, off2, none⟩) ys.length d).1)) ?_; simp only [Act.put, List.setIfInBounds_toArray, List.set_cons_zero, List.set_cons_succ]
              refine wpAnyK_one (i := 35) (fuel := 2) rfl (by kernel_rfl) rfl (fun K hK => ?_)
              (go_simp; go_wp2_with (go_at_call 15; refine (same_ids_step (Hlx.out _ h) (Hly.out _ h) (by have := Hxl.out; omega)).mono ?_; rw [Hsame.out]; rintro r w ⟨rfl, hs⟩; replace h := h.quiet hs; clear hs)); refine hK.out _ _ (fun _ => h.to) ?_; clear hK K
              try simp only [Act.put, List.setIfInBounds_toArray, List.set_cons_zero, List.set_cons_succ]
              refine wpAnyK_pure 52 (v := ?_) (i := 36) (fuel := 1) rfl rfl (by kernel_rfl) (by kernel_rfl) (by kernel_rfl) (by decide) (fun _ _ _ h => h) (Or.inl ⟨by rfl, fun w _ => ?_⟩) ?_; rotate_left; (go_simp; with_reducible rfl); simp only [Act.put, List.setIfInBounds_toArray, List.set_cons_zero, List.set_cons_succ]
              refine wpAnyK_pure 53 (v := ?_) (i := 37) (fuel := 0) rfl rfl (by kernel_rfl) (by kernel_rfl) (by kernel_rfl) (by decide) (fun _ _ _ h => h) (Or.inl ⟨by rfl, fun w _ => ?_⟩) ?_; rotate_left; (go_simp; with_reducible rfl); simp only [Act.put, List.setIfInBounds_toArray, List.set_cons_zero, List.set_cons_succ]
              refine wpAnyK_done (by kernel_rfl) ?_
              go_wp2
              go_ret
              exact ⟨by rw [Hd.out]; rfl, h.to⟩
          · have e2 : (xx != yx) = true := by simpa using h2
            have Hd : Hid (decide (obsM xs = obsM ys) = false) := Lib.hid (decide_eq_false (hne (fun e => h2 e.2.2)))
            clear hne Hnx h1 h2
            go_upto_region 6 with fail
            refine wp_region_K 38 (fun w' => St _ _ w' _) (by kernel_rfl) h.drew ?_; replace h := h.drew
            refine wpAnyK_pure 16 (v := ?_) (i := 0) (fuel := 37) rfl rfl (by kernel_rfl) (by kernel_rfl) (by kernel_rfl) (by decide) (fun _ _ _ h => h) (Or.inl ⟨by rfl, fun w _ => ?_⟩) ?_; rotate_left; (go_simp; with_reducible rfl); simp only [Act.put, List.setIfInBounds_toArray, List.set_cons_zero, List.set_cons_succ]
            refine wpAnyK_pure 17 (v := ?_) (i := 1) (fuel := 36) rfl rfl (by kernel_rfl) (by kernel_rfl) (by kernel_rfl) (by decide) (fun _ _ _ h => h) (Or.inl ⟨by rfl, fun w _ => ?_⟩) ?_; rotate_left; (go_simp; with_reducible rfl); simp only [Act.put, List.setIfInBounds_toArray, List.set_cons_zero, List.set_cons_succ]
            refine wpAnyK_pure 18 (v := ?_) (i := 2) (fuel := 35) rfl rfl (by kernel_rfl) (by kernel_rfl) (by kernel_rfl) (by decide) (fun _ _ _ h => h) (Or.inl ⟨by rfl, fun w _ => ?_⟩) ?_; rotate_left; (go_simp; with_reducible rfl); simp only [Act.put, List.setIfInBounds_toArray, List.set_cons_zero, List.set_cons_succ]
            refine wpAnyK_pure 19 (v := ?_) (i := 3) (fuel := 34) rfl rfl (by kernel_rfl) (by kernel_rfl) (by kernel_rfl) (by decide) (fun _ _ _ h => h) (Or.inl ⟨by rfl, fun w _ => ?_⟩) ?_; rotate_left; (go_simp; with_reducible rfl); simp only [Act.put, List.setIfInBounds_toArray, List.set_cons_zero, List.set_cons_succ]
            refine wpAnyK_load 20 (i := 4) (fuel := 33) rfl rfl (by kernel_rfl) (by kernel_rfl) (by kernel_rfl) (.inr (by decide)) (by decide) (fun _ _ _ h => h) rfl (fun w h => ex_load_at _ _ rfl b (off + k * 34) rfl (u8s xi.1) q1.out (Hx1.out _ (h.obsAt obc (some ⟨b, off, none⟩) xs.length c).1)) ?_; simp only [Act.put, List.setIfInBounds_toArray, List.set_cons_zero, List.set_cons_succ]
            refine wpAnyK_pure 21 (v := ?_) (i := 5) (fuel := 32) rfl rfl (by kernel_rfl) (by kernel_rfl) (by kernel_rfl) (by decide) (fun _ _ _ h => h) (Or.inl ⟨by rfl, fun w _ => ?_⟩) ?_; rotate_left; (go_simp; with_reducible rfl); simp only [Act.put, List.setIfInBounds_toArray, List.set_cons_zero, List.set_cons_succ]
            refine wpAnyK_pure 22 (v := ?_) (i := 6) (fuel := 31) rfl rfl (by kernel_rfl) (by kernel_rfl) (by kernel_rfl) (by decide) (fun _ _ _ h => h) (Or.inl ⟨by rfl, fun w _ => ?_⟩) ?_; rotate_left; (go_simp; with_reducible rfl); simp only [Act.put, List.setIfInBounds_toArray, List.set_cons_zero, List.set_cons_succ]
            refine wpAnyK_pure 23 (v := ?_) (i := 7) (fuel := 30) rfl rfl (by kernel_rfl) (by kernel_rfl) (by kernel_rfl) (by decide) (fun _ _ _ h => h) (Or.inl ⟨by rfl, fun w _ => ?_⟩) ?_; rotate_left; (go_simp; with_reducible rfl); simp only [Act.put, List.setIfInBounds_toArray, List.set_cons_zero, List.set_cons_succ]
            refine wpAnyK_pure 24 (v := ?_) (i := 8) (fuel := 29) rfl rfl (by kernel_rfl) (by kernel_rfl) (by kernel_rfl) (by decide) (fun _ _ _ h => h) (Or.inl ⟨by rfl, fun w _ => ?_⟩) ?_; rotate_left; (go_simp; with_reducible rfl); simp only [Act.put, List.setIfInBounds_toArray, List.set_cons_zero, List.set_cons_succ]
            refine wpAnyK_load 25 (i := 9) (fuel := 28) rfl rfl (by kernel_rfl) (by kernel_rfl) (by kernel_rfl) (.inr (by decide)) (by decide) (fun _ _ _ h => h) rfl (fun w h => ex_load_at _ _ rfl b2 (off2 + k * 34) rfl (u8s yi.1) q2.out (Hy1.out _ (h.obsAt obc (some ⟨b2, off2, none⟩) ys.length d).1)) ?_; simp only [Act.put, List.setIfInBounds_toArray, List.set_cons_zero, List.set_cons_succ]
            refine wpAnyK_load 26 (i := 10) (fuel := 27) rfl rfl (by kernel_rfl) (by kernel_rfl) (by kernel_rfl) (.inr (by decide)) (by decide) (fun _ _ _ h => h) rfl (fun w h => ex_neq _ _ _ _ rfl xi.1 yi.1 rfl rfl xi.2 yi.2 false e1) ?_; simp only [Act.put, List.setIfInBounds_toArray, List.set_cons_zero, List.set_cons_succ]
            refine wpAnyK_pure 27 (v := ?_) (i := 11) (fuel := 26) rfl rfl (by kernel_rfl) (by kernel_rfl) (by kernel_rfl) (by decide) (fun _ _ _ h => h) (Or.inl ⟨by rfl, fun w _ => ?_⟩) ?_; rotate_left; (go_simp; with_reducible rfl); simp only [Act.put, List.setIfInBounds_toArray, List.set_cons_zero, List.set_cons_succ]
            refine wpAnyK_pure 28 (v := ?_) (i := 12) (fuel := 25) rfl rfl (by kernel_rfl) (by kernel_rfl) (by kernel_rfl) (by decide) (fun _ _ _ h => h) (Or.inl ⟨by rfl, fun w _ => ?_⟩) ?_; rotate_left; (go_simp; with_reducible rfl); simp only [Act.put, List.setIfInBounds_toArray, List.set_cons_zero, List.set_cons_succ]
            refine wpAnyK_pure 29 (v := ?_) (i := 13) (fuel := 24) rfl rfl (by kernel_rfl) (by kernel_rfl) (by kernel_rfl) (by decide) (fun _ _ _ h => h) (Or.inl ⟨by rfl, fun w _ => ?_⟩) ?_; rotate_left; (go_simp; with_reducible rfl); simp only [Act.put, List.setIfInBounds_toArray, List.set_cons_zero, List.set_cons_succ]
            refine wpAnyK_pure 30 (v := ?_) (i := 14) (fuel := 23) rfl rfl (by kernel_rfl) (by kernel_rfl) (by kernel_rfl) (by decide) (fun _ _ _ h => h) (Or.inl ⟨by rfl, fun w _ => ?_⟩) ?_; rotate_left; (go_simp; with_reducible rfl); simp only [Act.put, List.setIfInBounds_toArray, List.set_cons_zero, List.set_cons_succ]
            refine wpAnyK_pure 31 (v := ?_) (i := 15) (fuel := 22) rfl rfl (by kernel_rfl) (by kernel_rfl) (by kernel_rfl) (by decide) (fun _ _ _ h => h) (Or.inl ⟨by rfl, fun w _ => ?_⟩) ?_; rotate_left; (go_simp; with_reducible rfl); simp only [Act.put, List.setIfInBounds_toArray, List.set_cons_zero, List.set_cons_succ]
            refine wpAnyK_load 32 (i := 16) (fuel := 21) rfl rfl (by kernel_rfl) (by kernel_rfl) (by kernel_rfl) (.inr (by decide)) (by decide) (fun _ _ _ h => h) rfl (fun w h => ex_load1_at _ _ rfl b (off + k * 34 + 33) rfl (.int .i64 xx) (Hx3.out _ (h.obsAt obc (some ⟨b, off, none⟩) xs.length c).1)) ?_; simp only [Act.put, List.setIfInBounds_toArray, List.set_cons_zero, List.set_cons_succ]
            refine wpAnyK_pure 33 (v := ?_) (i := 17) (fuel := 20) rfl rfl (by kernel_rfl) (by kernel_rfl) (by kernel_rfl) (by decide) (fun _ _ _ h => h) (Or.inl ⟨by rfl, fun w _ => ?_⟩) ?_; rotate_left; (go_simp; with_reducible rfl); simp only [Act.put, List.setIfInBounds_toArray, List.set_cons_zero, List.set_cons_succ]
            refine wpAnyK_pure 34 (v := ?_) (i := 18) (fuel := 19) rfl rfl (by kernel_rfl) (by kernel_rfl) (by kernel_rfl) (by decide) (fun _ _ _ h => h) (Or.inl ⟨by rfl, fun w _ => ?_⟩) ?_; rotate_left; (go_simp; with_reducible rfl); simp only [Act.put, List.setIfInBounds_toArray, List.set_cons_zero, List.set_cons_succ]
            refine wpAnyK_pure 35 (v := ?_) (i := 19) (fuel := 18) rfl rfl (by kernel_rfl) (by kernel_rfl) (by kernel_rfl) (by decide) (fun _ _ _ h => h) (Or.inl ⟨by rfl, fun w _ => ?_⟩) ?_; rotate_left; (go_simp; with_reducible rfl); simp only [Act.put, List.setIfInBounds_toArray, List.set_cons_zero, List.set_cons_succ]
            refine wpAnyK_pure 36 (v := ?_) (i := 20) (fuel := 17) rfl rfl (by kernel_rfl) (by kernel_rfl) (by kernel_rfl) (by decide) (fun _ _ _ h => h) (Or.inl ⟨by rfl, fun w _ => ?_⟩) ?_; rotate_left; (go_simp; with_reducible rfl); simp only [Act.put, List.setIfInBounds_toArray, List.set_cons_zero, List.set_cons_succ]
            refine wpAnyK_load 37 (i := 21) (fuel := 16) rfl rfl (by kernel_rfl) (by kernel_rfl) (by kernel_rfl) (.inr (by decide)) (by decide) (fun _ _ _ h => h) rfl (fun w h => ex_load1_at _ _ rfl b2 (off2 + k * 34 + 33) rfl (.int .i64 yx) (Hy3.out _ (h.obsAt obc (some ⟨b2, off2, none⟩) ys.length d).1)) ?_; simp only [Act.put, List.setIfInBounds_toArray, List.set_cons_zero, List.set_cons_succ]
            refine wpAnyK_pure 38 (v := ?_) (i := 22) (fuel := 15) rfl rfl (by kernel_rfl) (by kernel_rfl) (by kernel_rfl) (by decide) (fun _ _ _ h => h) (Or.inl ⟨by rfl, fun w _ => ?_⟩) ?_; rotate_left; (go_simp; with_reducible rfl); simp only [Act.put, List.setIfInBounds_toArray, List.set_cons_zero, List.set_cons_succ]
            refine wpAnyK_pure 39 (v := ?_) (i := 23) (fuel := 14) rfl rfl (by kernel_rfl) (by kernel_rfl) (by kernel_rfl) (by decide) (fun _ _ _ h => h) (Or.inl ⟨by rfl, fun w _ => ?_⟩) ?_; rotate_left; (go_simp; with_reducible rfl); simp only [Act.put, List.setIfInBounds_toArray, List.set_cons_zero, List.set_cons_succ]
            refine wpAnyK_pure 40 (v := ?_) (i := 24) (fuel := 13) rfl rfl (by kernel_rfl) (by kernel_rfl) (by kernel_rfl) (by decide) (fun _ _ _ h => h) (Or.inl ⟨by rfl, fun w _ => ?_⟩) ?_; rotate_left; (go_simp; with_reducible rfl); simp only [Act.put, List.setIfInBounds_toArray, List.set_cons_zero, List.set_cons_succ]
            refine wpAnyK_not 41 (i := 25) (fuel := 12) rfl rfl (by kernel_rfl) (by kernel_rfl) (by kernel_rfl) (by decide) (fun _ _ _ h => h) (by rfl) ?_; simp only [Act.put, List.setIfInBounds_toArray, List.set_cons_zero, List.set_cons_succ]
            refine wpAnyK_not 42 (i := 26) (fuel := 11) rfl rfl (by kernel_rfl) (by kernel_rfl) (by kernel_rfl) (by decide) (fun _ _ _ h => h) (by rfl) ?_; simp only [Act.put, List.setIfInBounds_toArray, List.set_cons_zero, List.set_cons_succ]
            refine wpAnyK_not 43 (i := 27) (fuel := 10) rfl rfl (by kernel_rfl) (by kernel_rfl) (by kernel_rfl) (by decide) (fun _ _ _ h => h) (by rfl) ?_; simp only [Act.put, List.setIfInBounds_toArray, List.set_cons_zero, List.set_cons_succ]
            refine wpAnyK_not 44 (i := 28) (fuel := 9) rfl rfl (by kernel_rfl) (by kernel_rfl) (by kernel_rfl) (by decide) (fun _ _ _ h => h) (by rfl) ?_; simp only [Act.put, List.setIfInBounds_toArray, List.set_cons_zero, List.set_cons_succ]
            refine wpAnyK_not 45 (i := 29) (fuel := 8) rfl rfl (by kernel_rfl) (by kernel_rfl) (by kernel_rfl) (by decide) (fun _ _ _ h => h) (by rfl) ?_; simp only [Act.put, List.setIfInBounds_toArray, List.set_cons_zero, List.set_cons_succ]
            refine wpAnyK_not 46 (i := 30) (fuel := 7) rfl rfl (by kernel_rfl) (by kernel_rfl) (by kernel_rfl) (by decide) (fun _ _ _ h => h) (by rfl) ?_; simp only [Act.put, List.setIfInBounds_toArray, List.set_cons_zero, List.set_cons_succ]
            refine wpAnyK_not 47 (i := 31) (fuel := 6) rfl rfl (by kernel_rfl) (by kernel_rfl) (by kernel_rfl) (by decide) (fun _ _ _ h => h) (by rfl) ?_; simp only [Act.put, List.setIfInBounds_toArray, List.set_cons_zero, List.set_cons_succ]
            refine wpAnyK_not 48 (i := 32) (fuel := 5) rfl rfl (by kernel_rfl) (by kernel_rfl) (by kernel_rfl) (by decide) (fun _ _ _ h => h) (by rfl) ?_; simp only [Act.put, List.setIfInBounds_toArray, List.set_cons_zero, List.set_cons_succ]
            refine wpAnyK_not 49 (i := 33) (fuel := 4) rfl rfl (by kernel_rfl) (by kernel_rfl) (by kernel_rfl) (by decide) (fun _ _ _ h => h) (by rfl) ?_; simp only [Act.put, List.setIfInBounds_toArray, List.set_cons_zero, List.set_cons_succ]
            refine wpAnyK_not 50 (i := 34) (fuel := 3) rfl rfl (by kernel_rfl) (by kernel_rfl) (by kernel_rfl) (by decide) (fun _ _ _ h => h) (by rfl) ?_; simp only [Act.put, List.setIfInBounds_toArray, List.set_cons_zero, List.set_cons_succ]
            refine wpAnyK_not 51 (i := 35) (fuel := 2) rfl rfl (by kernel_rfl) (by kernel_rfl) (by kernel_rfl) (by decide) (fun _ _ _ h => h) (by rfl) ?_; simp only [Act.put, List.setIfInBounds_toArray, List.set_cons_zero, List.set_cons_succ]
            refine wpAnyK_not 52 (i := 36) (fuel := 1) rfl rfl (by kernel_rfl) (by kernel_rfl) (by kernel_rfl) (by decide) (fun _ _ _ h => h) (by rfl) ?_; simp only [Act.put, List.setIfInBounds_toArray, List.set_cons_zero, List.set_cons_succ]
            refine wpAnyK_pure 53 (v := ?_) (i := 37) (fuel := 0) rfl rfl (by kernel_rfl) (by kernel_rfl) (by kernel_rfl) (by decide) (fun _ _ _ h => h) (Or.inl ⟨by rfl, fun w _ => ?_⟩) ?_; rotate_left; (go_simp; with_reducible rfl); simp only [Act.put, List.setIfInBounds_toArray, List.set_cons_zero, List.set_cons_succ]
            refine wpAnyK_done (by kernel_rfl) ?_
            go_wp2
            go_ret
            exact ⟨by rw [Hd.out]; rfl, h.to⟩
        · have e1 : (!(xi.1 == yi.1)) = true := by
            simp only [Bool.not_eq_true', beq_eq_false_iff_ne]
            exact fun e => h1 (Subtype.ext e)
          have Hd : Hid (decide (obsM xs = obsM ys) = false) := Lib.hid (decide_eq_false (hne (fun e => h1 e.1)))
          clear hne Hnx h1
          go_upto_region 6 with fail
          refine wp_region_K 38 (fun w' => St _ _ w' _) (by kernel_rfl) h.drew ?_; replace h := h.drew
          refine wpAnyK_pure 16 (v := ?_) (i := 0) (fuel := 37) rfl rfl (by kernel_rfl) (by kernel_rfl) (by kernel_rfl) (by decide) (fun _ _ _ h => h) (Or.inl ⟨by rfl, fun w _ => ?_⟩) ?_; rotate_left; (go_simp; with_reducible rfl); simp only [Act.put, List.setIfInBounds_toArray, List.set_cons_zero, List.set_cons_succ]
          refine wpAnyK_pure 17 (v := ?_) (i := 1) (fuel := 36) rfl rfl (by kernel_rfl) (by kernel_rfl) (by kernel_rfl) (by decide) (fun _ _ _ h => h) (Or.inl ⟨by rfl, fun w _ => ?_⟩) ?_; rotate_left; (go_simp; with_reducible rfl); simp only [Act.put, List.setIfInBounds_toArray, List.set_cons_zero, List.set_cons_succ]
          refine wpAnyK_pure 18 (v := ?_) (i := 2) (fuel := 35) rfl rfl (by kernel_rfl) (by kernel_rfl) (by kernel_rfl) (by decide) (fun _ _ _ h => h) (Or.inl ⟨by rfl, fun w _ => ?_⟩) ?_; rotate_left; (go_simp; with_reducible rfl); simp only [Act.put, List.setIfInBounds_toArray, List.set_cons_zero, List.set_cons_succ]
          refine wpAnyK_pure 19 (v := ?_) (i := 3) (fuel := 34) rfl rfl (by kernel_rfl) (by kernel_rfl) (by kernel_rfl) (by decide) (fun _ _ _ h => h) (Or.inl ⟨by rfl, fun w _ => ?_⟩) ?_; rotate_left; (go_simp; with_reducible rfl); simp only [Act.put, List.setIfInBounds_toArray, List.set_cons_zero, List.set_cons_succ]
          refine wpAnyK_load 20 (i := 4) (fuel := 33) rfl rfl (by kernel_rfl) (by kernel_rfl) (by kernel_rfl) (.inr (by decide)) (by decide) (fun _ _ _ h => h) rfl (fun w h => ex_load_at _ _ rfl b (off + k * 34) rfl (u8s xi.1) q1.out (Hx1.out _ (h.obsAt obc (some ⟨b, off, none⟩) xs.length c).1)) ?_; simp only [Act.put, List.setIfInBounds_toArray, List.set_cons_zero, List.set_cons_succ]
          refine wpAnyK_pure 21 (v := ?_) (i := 5) (fuel := 32) rfl rfl (by kernel_rfl) (by kernel_rfl) (by kernel_rfl) (by decide) (fun _ _ _ h => h) (Or.inl ⟨by rfl, fun w _ => ?_⟩) ?_; rotate_left; (go_simp; with_reducible rfl); simp only [Act.put, List.setIfInBounds_toArray, List.set_cons_zero, List.set_cons_succ]
          refine wpAnyK_pure 22 (v := ?_) (i := 6) (fuel := 31) rfl rfl (by kernel_rfl) (by kernel_rfl) (by kernel_rfl) (by decide) (fun _ _ _ h => h) (Or.inl ⟨by rfl, fun w _ => ?_⟩) ?_; rotate_left; (go_simp; with_reducible rfl); simp only [Act.put, List.setIfInBounds_toArray, List.set_cons_zero, List.set_cons_succ]
          refine wpAnyK_pure 23 (v := ?_) (i := 7) (fuel := 30) rfl rfl (by kernel_rfl) (by kernel_rfl) (by kernel_rfl) (by decide) (fun _ _ _ h => h) (Or.inl ⟨by rfl, fun w _ => ?_⟩) ?_; rotate_left; (go_simp; with_reducible rfl); simp only [Act.put, List.setIfInBounds_toArray, List.set_cons_zero, List.set_cons_succ]
          refine wpAnyK_pure 24 (v := ?_) (i := 8) (fuel := 29) rfl rfl (by kernel_rfl) (by kernel_rfl) (by kernel_rfl) (by decide) (fun _ _ _ h => h) (Or.inl ⟨by rfl, fun w _ => ?_⟩) ?_; rotate_left; (go_simp; with_reducible rfl); simp only [Act.put, List.setIfInBounds_toArray, List.set_cons_zero, List.set_cons_succ]
          refine wpAnyK_load 25 (i := 9) (fuel := 28) rfl rfl (by kernel_rfl) (by kernel_rfl) (by kernel_rfl) (.inr (by decide)) (by decide) (fun _ _ _ h => h) rfl (fun w h => ex_load_at _ _ rfl b2 (off2 + k * 34) rfl (u8s yi.1) q2.out (Hy1.out _ (h.obsAt obc (some ⟨b2, off2, none⟩) ys.length d).1)) ?_; simp only [Act.put, List.setIfInBounds_toArray, List.set_cons_zero, List.set_cons_succ]
          refine wpAnyK_load 26 (i := 10) (fuel := 27) rfl rfl (by kernel_rfl) (by kernel_rfl) (by kernel_rfl) (.inr (by decide)) (by decide) (fun _ _ _ h => h) rfl (fun w h => ex_neq _ _ _ _ rfl xi.1 yi.1 rfl rfl xi.2 yi.2 true e1) ?_; simp only [Act.put, List.setIfInBounds_toArray, List.set_cons_zero, List.set_cons_succ]
          refine wpAnyK_pure 27 (v := ?_) (i := 11) (fuel := 26) rfl rfl (by kernel_rfl) (by kernel_rfl) (by kernel_rfl) (by decide) (fun _ _ _ h => h) (Or.inl ⟨by rfl, fun w _ => ?_⟩) ?_; rotate_left; (go_simp; with_reducible rfl); simp only [Act.put, List.setIfInBounds_toArray, List.set_cons_zero, List.set_cons_succ]
          refine wpAnyK_not 28 (i := 12) (fuel := 25) rfl rfl (by kernel_rfl) (by kernel_rfl) (by kernel_rfl) (by decide) (fun _ _ _ h => h) (by rfl) ?_; simp only [Act.put, List.setIfInBounds_toArray, List.set_cons_zero, List.set_cons_succ]
          refine wpAnyK_not 29 (i := 13) (fuel := 24) rfl rfl (by kernel_rfl) (by kernel_rfl) (by kernel_rfl) (by decide) (fun _ _ _ h => h) (by rfl) ?_; simp only [Act.put, List.setIfInBounds_toArray, List.set_cons_zero, List.set_cons_succ]
          refine wpAnyK_not 30 (i := 14) (fuel := 23) rfl rfl (by kernel_rfl) (by kernel_rfl) (by kernel_rfl) (by decide) (fun _ _ _ h => h) (by rfl) ?_; simp only [Act.put, List.setIfInBounds_toArray, List.set_cons_zero, List.set_cons_succ]
          refine wpAnyK_not 31 (i := 15) (fuel := 22) rfl rfl (by kernel_rfl) (by kernel_rfl) (by kernel_rfl) (by decide) (fun _ _ _ h => h) (by rfl) ?_; simp only [Act.put, List.setIfInBounds_toArray, List.set_cons_zero, List.set_cons_succ]
          refine wpAnyK_not 32 (i := 16) (fuel := 21) rfl rfl (by kernel_rfl) (by kernel_rfl) (by kernel_rfl) (by decide) (fun _ _ _ h => h) (by rfl) ?_; simp only [Act.put, List.setIfInBounds_toArray, List.set_cons_zero, List.set_cons_succ]
          refine wpAnyK_not 33 (i := 17) (fuel := 20) rfl rfl (by kernel_rfl) (by kernel_rfl) (by kernel_rfl) (by decide) (fun _ _ _ h => h) (by rfl) ?_; simp only [Act.put, List.setIfInBounds_toArray, List.set_cons_zero, List.set_cons_succ]
          refine wpAnyK_not 34 (i := 18) (fuel := 19) rfl rfl (by kernel_rfl) (by kernel_rfl) (by kernel_rfl) (by decide) (fun _ _ _ h => h) (by rfl) ?_; simp only [Act.put, List.setIfInBounds_toArray, List.set_cons_zero, List.set_cons_succ]
          refine wpAnyK_not 35 (i := 19) (fuel := 18) rfl rfl (by kernel_rfl) (by kernel_rfl) (by kernel_rfl) (by decide) (fun _ _ _ h => h) (by rfl) ?_; simp only [Act.put, List.setIfInBounds_toArray, List.set_cons_zero, List.set_cons_succ]
          refine wpAnyK_not 36 (i := 20) (fuel := 17) rfl rfl (by kernel_rfl) (by kernel_rfl) (by kernel_rfl) (by decide) (fun _ _ _ h => h) (by rfl) ?_; simp only [Act.put, List.setIfInBounds_toArray, List.set_cons_zero, List.set_cons_succ]
          refine wpAnyK_not 37 (i := 21) (fuel := 16) rfl rfl (by kernel_rfl) (by kernel_rfl) (by kernel_rfl) (by decide) (fun _ _ _ h => h) (by rfl) ?_; simp only [Act.put, List.setIfInBounds_toArray, List.set_cons_zero, List.set_cons_succ]
          refine wpAnyK_not 38 (i := 22) (fuel := 15) rfl rfl (by kernel_rfl) (by kernel_rfl) (by kernel_rfl) (by decide) (fun _ _ _ h => h) (by rfl) ?_; simp only [Act.put, List.setIfInBounds_toArray, List.set_cons_zero, List.set_cons_succ]
          refine wpAnyK_pure 39 (v := ?_) (i := 23) (fuel := 14) rfl rfl (by kernel_rfl) (by kernel_rfl) (by kernel_rfl) (by decide) (fun _ _ _ h => h) (Or.inl ⟨by rfl, fun w _ => ?_⟩) ?_; rotate_left; (go_simp; with_reducible rfl); simp only [Act.put, List.setIfInBounds_toArray, List.set_cons_zero, List.set_cons_succ]
          refine wpAnyK_pure 40 (v := ?_) (i := 24) (fuel := 13) rfl rfl (by kernel_rfl) (by kernel_rfl) (by kernel_rfl) (by decide) (fun _ _ _ h => h) (Or.inl ⟨by rfl, fun w _ => ?_⟩) ?_; rotate_left; (go_simp; with_reducible rfl); simp only [Act.put, List.setIfInBounds_toArray, List.set_cons_zero, List.set_cons_succ]
          refine wpAnyK_not 41 (i := 25) (fuel := 12) rfl rfl (by kernel_rfl) (by kernel_rfl) (by kernel_rfl) (by decide) (fun _ _ _ h => h) (by rfl) ?_; simp only [Act.put, List.setIfInBounds_toArray, List.set_cons_zero, List.set_cons_succ]
          refine wpAnyK_not 42 (i := 26) (fuel := 11) rfl rfl (by kernel_rfl) (by kernel_rfl) (by kernel_rfl) (by decide) (fun _ _ _ h => h) (by rfl) ?_; simp only [Act.put, List.setIfInBounds_toArray, List.set_cons_zero, List.set_cons_succ]
          refine wpAnyK_not 43 (i := 27) (fuel := 10) rfl rfl (by kernel_rfl) (by kernel_rfl) (by kernel_rfl) (by decide) (fun _ _ _ h => h) (by rfl) ?_; simp only [Act.put, List.setIfInBounds_toArray, List.set_cons_zero, List.set_cons_succ]
          refine wpAnyK_not 44 (i := 28) (fuel := 9) rfl rfl (by kernel_rfl) (by kernel_rfl) (by kernel_rfl) (by decide) (fun _ _ _ h => h) (by rfl) ?_; simp only [Act.put, List.setIfInBounds_toArray, List.set_cons_zero, List.set_cons_succ]
          refine wpAnyK_not 45 (i := 29) (fuel := 8) rfl rfl (by kernel_rfl) (by kernel_rfl) (by kernel_rfl) (by decide) (fun _ _ _ h => h) (by rfl) ?_; simp only [Act.put, List.setIfInBounds_toArray, List.set_cons_zero, List.set_cons_succ]
          refine wpAnyK_not 46 (i := 30) (fuel := 7) rfl rfl (by kernel_rfl) (by kernel_rfl) (by kernel_rfl) (by decide) (fun _ _ _ h => h) (by rfl) ?_; simp only [Act.put, List.setIfInBounds_toArray, List.set_cons_zero, List.set_cons_succ]
          refine wpAnyK_not 47 (i := 31) (fuel := 6) rfl rfl (by kernel_rfl) (by kernel_rfl) (by kernel_rfl) (by decide) (fun _ _ _ h => h) (by rfl) ?_; simp only [Act.put, List.setIfInBounds_toArray, List.set_cons_zero, List.set_cons_succ]
          refine wpAnyK_not 48 (i := 32) (fuel := 5) rfl rfl (by kernel_rfl) (by kernel_rfl) (by kernel_rfl) (by decide) (fun _ _ _ h => h) (by rfl) ?_; simp only [Act.put, List.setIfInBounds_toArray, List.set_cons_zero, List.set_cons_succ]
          refine wpAnyK_not 49 (i := 33) (fuel := 4) rfl rfl (by kernel_rfl) (by kernel_rfl) (by kernel_rfl) (by decide) (fun _ _ _ h => h) (by rfl) ?_; simp only [Act.put, List.setIfInBounds_toArray, List.set_cons_zero, List.set_cons_succ]
          refine wpAnyK_not 50 (i := 34) (fuel := 3) rfl rfl (by kernel_rfl) (by kernel_rfl) (by kernel_rfl) (by decide) (fun _ _ _ h => h) (by rfl) ?_; simp only [Act.put, List.setIfInBounds_toArray, List.set_cons_zero, List.set_cons_succ]
          refine wpAnyK_not 51 (i := 35) (fuel := 2) rfl rfl (by kernel_rfl) (by kernel_rfl) (by kernel_rfl) (by decide) (fun _ _ _ h => h) (by rfl) ?_; simp only [Act.put, List.setIfInBounds_toArray, List.set_cons_zero, List.set_cons_succ]
          refine wpAnyK_not 52 (i := 36) (fuel := 1) rfl rfl (by kernel_rfl) (by kernel_rfl) (by kernel_rfl) (by decide) (fun _ _ _ h => h) (by rfl) ?_; simp only [Act.put, List.setIfInBounds_toArray, List.set_cons_zero, List.set_cons_succ]
          refine wpAnyK_pure 53 (v := ?_) (i := 37) (fuel := 0) rfl rfl (by kernel_rfl) (by kernel_rfl) (by kernel_rfl) (by decide) (fun _ _ _ h => h) (Or.inl ⟨by rfl, fun w _ => ?_⟩) ?_; rotate_left; (go_simp; with_reducible rfl); simp only [Act.put, List.setIfInBounds_toArray, List.set_cons_zero, List.set_cons_succ]
          refine wpAnyK_done (by kernel_rfl) ?_
          go_wp2
          go_ret
          exact ⟨by rw [Hd.out]; rfl, h.to⟩
      · obtain rfl : k = xs.length := by omega
        have Hd : Hid (decide (obsM xs = obsM ys) = true) := Lib.hid (decide_eq_true (obs_all Hlen.out fun k hk => Hal.out k hk))
        have hkk : ¬ ((xs.length : Int) < (xs.length : Int)) := by omega
        clear hkl
        go_wp2
        go_ret
        exact ⟨by rw [Hd.out]; rfl, h.to⟩
  · have f1 : ((xs.length : Int) != (ys.length : Int)) = true := by simp; omega
    have Hd : Hid (decide (obsM xs = obsM ys) = false) := Lib.hid (decide_eq_false fun e => hlen (by have := congrArg List.length e; simpa [obsM] using this))
    go_enter Try.func20, Try.ntmps20
    go_wp2
    go_ret
    exact ⟨by rw [Hd.out]; rfl, h.to⟩
end Go.Proofs.Ytionnlckjjojnaa
