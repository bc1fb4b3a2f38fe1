/- The reference's Order. -/
import Derived.Test.YtionnlckjjojnaaCMarkOrder
import Derived.Test.YtionnlckjjojnaaCMarkRefF
import Derived.Test.YtionnlckjjojnaaCB2
namespace Go.Proofs.Ytionnlckjjojnaa
open Go.RowKit Go.Maps
set_option linter.unusedVariables false
set_option linter.unusedSimpArgs false

/-- The objects at places. -/
def pickP (ps : List ObAt) (l : List Nat) : List ObAt := l.filterMap fun j => ps[j]?
theorem pickP_obs (ps : List ObAt) (l : List Nat) : obsM (pickP ps l) = pickM (obsM ps) l := by
  unfold pickP pickM obsM
  rw [List.map_filterMap]
  congr 1
  funext j
  simp
theorem pickP_mem {ps : List ObAt} {l : List Nat} {p : ObAt} (h : p ∈ pickP ps l) : p ∈ ps := by
  obtain ⟨j, _, hj⟩ := List.mem_filterMap.1 h
  exact List.mem_of_getElem? hj
theorem pickP_app (ps : List ObAt) (a b : List Nat) : pickP ps (a ++ b) = pickP ps a ++ pickP ps b := List.filterMap_append
theorem pickP_one (ps : List ObAt) {j : Nat} (h : j < ps.length) : pickP ps [j] = [ps[j]] := by simp [pickP, h]
theorem pickP_take (ps : List ObAt) : ∀ k, k ≤ ps.length → pickP ps (List.range k) = ps.take k
  | 0, _ => rfl
  | k + 1, h => by
    rw [List.range_succ, pickP_app, pickP_take ps k (by omega), pickP_one ps (by omega), List.take_succ_eq_append_getElem (by omega)]
theorem pickP_range (ps : List ObAt) : pickP ps (List.range ps.length) = ps := by rw [pickP_take ps _ (Nat.le_refl _), List.take_length]
theorem pickP_len {ps : List ObAt} : ∀ {l : List Nat}, (∀ i ∈ l, i < ps.length) → (pickP ps l).length = l.length
  | [], _ => rfl
  | i :: l, h => by
    have hi := h i (by simp)
    have := pickP_len (l := l) (fun j hj => h j (by simp [hj]))
    simp only [pickP] at this ⊢
    rw [List.filterMap_cons_some (List.getElem?_eq_getElem hi), List.length_cons, List.length_cons, this]
theorem pickP_get {ps : List ObAt} : ∀ {l : List Nat}, (∀ i ∈ l, i < ps.length) → ∀ {j : Nat} (hj : j < l.length) (hj2 : j < (pickP ps l).length), ∃ h : l[j] < ps.length, (pickP ps l)[j] = ps[l[j]]
  | [], _, j, hj, _ => by simp at hj
  | i :: l, h, j, hj, hj2 => by
    have hi := h i (by simp)
    have e : pickP ps (i :: l) = ps[i] :: pickP ps l := List.filterMap_cons_some (List.getElem?_eq_getElem hi)
    cases j with
    | zero => exact ⟨hi, by simp [e]⟩
    | succ j =>
      obtain ⟨h1, h2⟩ := pickP_get (l := l) (fun j hj => h j (by simp [hj])) (j := j) (by simpa using hj) (by rw [e] at hj2; simpa using hj2)
      exact ⟨by simpa using h1, by simp [e, h2]⟩
theorem pickP_cut {ps : List ObAt} {l : List Nat} (h : ∀ i ∈ l, i < ps.length) (k : Nat) : pickP ps (l.take k ++ l.drop (k + 1)) = (pickP ps l).take k ++ (pickP ps l).drop (k + 1) := by
  have ht : ∀ k (l : List Nat), (∀ i ∈ l, i < ps.length) → pickP ps (l.take k) = (pickP ps l).take k ∧ pickP ps (l.drop k) = (pickP ps l).drop k := by
    intro k
    induction k with
    | zero => intro l _; exact ⟨by simp [pickP], by simp⟩
    | succ k ih =>
      intro l hl
      cases l with
      | nil => exact ⟨by simp [pickP], by simp [pickP]⟩
      | cons i l =>
        have hi := hl i (by simp)
        have e : ∀ m, pickP ps (i :: m) = ps[i] :: pickP ps m := fun m => List.filterMap_cons_some (List.getElem?_eq_getElem hi)
        obtain ⟨h1, h2⟩ := ih l (fun j hj => hl j (by simp [hj]))
        rw [List.take_succ_cons, e, h1, List.drop_succ_cons, h2, e]
        exact ⟨by simp, by simp⟩
  rw [pickP_app, (ht k l h).1, (ht (k + 1) l h).2]
theorem lefts_all {ps : List ObAt} {out : List Nat} : ∀ i ∈ lefts (obsM ps) out, i < ps.length := fun i hi => by
  have := lefts_lt hi
  simpa using this
/-- Whether an id is among what is placed. -/
theorem placed_mem {ps : List ObAt} {out : List Nat} (h : ∀ i ∈ out, i < ps.length) (x : Id) : (out.any fun j => decide ((idsOf (obsM ps))[j]? = some x)) = decide (x ∈ (pickP ps out).map (·.id)) := by
  rw [Bool.eq_iff_iff, List.any_eq_true, decide_eq_true_eq, List.mem_map]
  constructor
  · rintro ⟨j, hj, e⟩
    have hjl := h j hj
    refine ⟨ps[j], List.mem_filterMap.2 ⟨j, hj, List.getElem?_eq_getElem hjl⟩, ?_⟩
    simpa [idsOf, obsM, obOf, hjl] using e
  · rintro ⟨p, hp, rfl⟩
    obtain ⟨j, hj, e⟩ := List.mem_filterMap.1 hp
    exact ⟨j, hj, by simp [idsOf, obsM, obOf, e]⟩
theorem findV_ge {l : List Id} {x : Id} : decide (0 ≤ findV (fstIx l x)) = decide (x ∈ l) := by
  apply decide_eq_decide.2
  rw [← fstIx_isSome]
  cases fstIx l x with
  | none => simp [findV]
  | some k => simp [findV]
theorem findV_lt {l : List Id} {x : Id} : decide (findV (fstIx l x) < 0) = !decide (x ∈ l) := by
  have h : (x ∈ l) ↔ ¬ findV (fstIx l x) < 0 := by
    rw [← fstIx_isSome]
    cases fstIx l x with
    | none => simp [findV]
    | some k => simp [findV]
  by_cases hx : x ∈ l
  · rw [decide_eq_false (h.1 hx), decide_eq_true hx]; rfl
  · rw [decide_eq_true (Classical.not_not.1 (fun e => hx (h.2 e))), decide_eq_false hx]; rfl
theorem flat_cut {l : List ObAt} {k : Nat} (hk : k ≤ l.length) : (l.flatMap obc).take (k * 34) = (l.take k).flatMap obc ∧ (l.flatMap obc).drop (k * 34) = (l.drop k).flatMap obc := by
  have h1 : ((l.take k).flatMap obc).length = k * 34 := by rw [length_flatMap obc_length, List.length_take, Nat.min_eq_left hk]
  have h2 : l.flatMap obc = (l.take k).flatMap obc ++ (l.drop k).flatMap obc := by rw [← List.flatMap_append, List.take_append_drop]
  rw [h2]
  exact ⟨List.take_left' h1, List.drop_left' h1⟩
theorem obcs_one (l : List ObAt) : ∀ u ∈ l.flatMap obc, u.oneCell' = true := fun u hu => by
  obtain ⟨p, _, hp⟩ := List.mem_flatMap.1 hu
  have : Row (u8s p.id.1) 32 := Row.u32 p.id
  exact (inferInstance : Row (obc p) 34).one u hp
def OrdFin2 (S : Nat → Prop) (w0 : World) (L : List Ent) (ps : List ObAt) (e : Ending) (w' : World) : Prop := ∃ (A1 : Option Addr) (c1 : Nat) (ops : List ObAt) (b : Bool), e = .returned (.tuple #[.slice A1 ops.length c1, .bool b]) ∧ (obsM ops, b) = ordR (obsM ps) ∧ (∀ p ∈ ops, p ∈ ps) ∧ St S w0 w' (eOwn 44 34 A1 ops.length c1 (ops.flatMap obc) :: L)
set_option maxRecDepth 100000 in
set_option maxHeartbeats 8000000 in
theorem order_ref {S : Nat → Prop} {w0 w : World} {L : List Ent} {A : Option Addr} {c : Nat} {ps : List ObAt} (h : St S w0 w L) [kh : HasObs obc L A ps.length c ps] (hl : ps.length ≤ 1000000) (Hls : Hid (∀ p ∈ ps, p.links.length ≤ 1000000)) :
    Calls Try.prog 22 #[.slice A ps.length c] w fun e w' => OrdFin2 S w0 L ps e w' := by
  have hN : (obsM ps).length = ps.length := by simp
  have HN := Lib.hid hN
  have h1 := obcs_one ps
  clear hN
  go_enter Try.func22, Try.ntmps22
  go_wp2_with (first
    | (refine wl_at 13 rfl ?_; refine wl_runs rfl (ex_append_nil h _ _ _ rfl rfl A ps.length c rfl (h.obsAt obc A ps.length c).1 h1 (by simp [maxLen]; omega) (by omega)) ?_; clear h; rintro _ w ⟨AL, cL, rfl, h⟩; try simp only [Act.put, List.setIfInBounds_toArray, List.set_cons_zero, List.set_cons_succ]))
  replace h := h.nilRow 44 34
  have h2 : St S w0 w (eOwn 44 34 AL (pickP ps (lefts (obsM ps) [])).length cL ((pickP ps (lefts (obsM ps) [])).flatMap obc) :: eOwn 44 34 none (pickP ps []).length 0 ((pickP ps []).flatMap obc) :: L) := by
    rw [lefts_nil, HN.out, pickP_range]
    exact h.to (L' := eOwn 44 34 AL ps.length cL (ps.flatMap obc) :: eOwn 44 34 none 0 0 [] :: L)
  have hpl0 : ps.length = (pickP ps (lefts (obsM ps) [])).length := by rw [lefts_nil, HN.out, pickP_range]
  clear h h1
  have h := h2
  clear h2
  go_loopw [4, 5] (fun lv ov wr => ∃ (k : Nat) (out : List Nat) (lps ops : List ObAt) (AL AO : Option Addr) (cL cO : Nat), lv = .slice AL lps.length cL ∧ ov = .slice AO ops.length cO ∧ Hid (lps = pickP ps (lefts (obsM ps) out)) ∧ Hid (ops = pickP ps out) ∧ lps.length = k ∧ k + ops.length = ps.length ∧ Hid (OInv (obsM ps) k out) ∧ St S w0 wr (eOwn 44 34 AL lps.length cL (lps.flatMap obc) :: eOwn 44 34 AO ops.length cO (ops.flatMap obc) :: L)) (fun lv _ _ => slLen lv)
  case atStart => exact ⟨ps.length, [], _, [], AL, none, cL, 0, by rw [← hpl0], rfl, Lib.hid rfl, Lib.hid rfl, hpl0.symm, rfl, Lib.hid (by have := OInv.init (obsM ps); rwa [HN.out] at this), h⟩
  case round =>
    clear h hpl0
    obtain ⟨k, out, lps, ops, AL, AO, cL, cO, rfl, rfl, Hlp, Hop, hlk, hsum, Hinv, h⟩ := hrel
    have hlp6 : lps.length ≤ 1000000 := by omega
    have hop6 : ops.length ≤ 1000000 := by omega
    have Hopm : Hid (∀ p ∈ ops, p ∈ ps) := Lib.hid (fun p hp => by rw [Hop.out] at hp; exact pickP_mem hp)
    have Hlpm : Hid (∀ p ∈ lps, p ∈ ps) := Lib.hid (fun p hp => by rw [Hlp.out] at hp; exact pickP_mem hp)
    have Hlt : Hid (∀ i ∈ out, i < ps.length) := Lib.hid (fun i hi => by have := Hinv.out.lt i hi; rwa [HN.out] at this)
    have Hll : Hid ((lefts (obsM ps) out).length = lps.length) := Lib.hid (by rw [Hlp.out, pickP_len lefts_all])
    have Hk := Lib.hid hlk
    have Hsum := Lib.hid hsum
    clear hsum hlk
    by_cases hz : 0 < lps.length
    · have f0 : (0 : Int) < (lps.length : Int) := by omega
      -- the place j, its links
      go_wp2
      go_loopw [6, 19] (fun kv iv wr => ∃ (j : Nat) (v : Int), kv = .int .i64 v ∧ iv = .int .i64 (j : Int) ∧ j ≤ lps.length ∧ Hid ((v = -1 ∧ ∀ i, i < j → ∀ q, (lefts (obsM ps) out)[i]? = some q → freeM (obsM ps) out q = false) ∨ ∃ u : Nat, u < j ∧ v = (u : Int) ∧ (∀ q, (lefts (obsM ps) out)[u]? = some q → freeM (obsM ps) out q = true) ∧ ∀ i, i < u → ∀ q, (lefts (obsM ps) out)[i]? = some q → freeM (obsM ps) out q = false) ∧ St S w0 wr (eOwn 44 34 AL lps.length cL (lps.flatMap obc) :: eOwn 44 34 AO ops.length cO (ops.flatMap obc) :: L)) (fun _ iv _ => lps.length - (intOf iv).toNat)
      case atStart => exact ⟨0, -1, rfl, rfl, Nat.zero_le _, Lib.hid (.inl ⟨rfl, fun i hi => by omega⟩), h⟩
      case round =>
        clear h
        obtain ⟨j, v, rfl, rfl, hj, Hv, h⟩ := hrel
        by_cases hjl : j < lps.length
        · have f2 : (j : Int) < (lps.length : Int) := by omega
          have t1 : ((j : Int)).toNat = j := by omega
          obtain ⟨p, hp⟩ : ∃ p, lps[j] = p := ⟨_, rfl⟩
          have hpm : p ∈ lps := by rw [← hp]; exact List.getElem_mem _
          have hpps := Hlpm.out p hpm
          have hpl := Hls.out p hpps
          have hfree : ∀ q, (lefts (obsM ps) out)[j]? = some q → freeM (obsM ps) out q = p.links.all (okLink (obsM ps) out) := fun q hq => by
            obtain ⟨hjl2, e⟩ := List.getElem?_eq_some_iff.1 hq
            obtain ⟨h5, h6⟩ := pickP_get (ps := ps) lefts_all hjl2 (by rw [← Hlp.out]; exact hjl)
            have h7 : ps[(lefts (obsM ps) out)[j]] = p := by rw [← h6, ← hp]; congr 1; exact Hlp.out.symm
            have h8 : q < ps.length := by rw [← e]; exact h5
            have h9 : ps[q] = p := by rw [← h7]; congr 1; exact e.symm
            rw [freeM_eq]
            simp [linksAt, h8, h9, obOf]
          have Hfree := Lib.hid hfree
          have hpn := (h.obsAt obc A ps.length c).2.n_eq hpps
          obtain ⟨b, off, rfl, _⟩ := (h.sl AL lps.length cL).pos (by omega)
          have hcs : ∀ {w}, Sl w (some ⟨b, off, none⟩) lps.length cL 34 (lps.flatMap obc) → Cells w b (off + j * 34) (obc p) := fun hs => by rw [← hp]; exact hs.elemAt obc_length hjl (by omega)
          have Hpp := Lib.hid hpps
          clear hp hfree hpps hpm
          obtain ⟨oA, on, oc, oi, ol, ox⟩ := p
          simp only at hpl hpn Hfree
          obtain rfl : on = ol.length := hpn
          have hro : Row (u8s oi.1) 32 := Row.u32 oi
          obtain ⟨fr, hfr⟩ : ∃ fr, decide (v < 0) = fr := ⟨_, rfl⟩
          have Hfr := Lib.hid hfr
          go_wp2_with (first
            | (refine wl_at 23 rfl ?_; refine wl_reads rfl (ex_load_at _ _ rfl b (off + j * 34) rfl ((c_api_Object (u8s oi.1) (.slice oA ol.length oc) (.int .i64 ox))) (obc_length ⟨oA, ol.length, oc, oi, ol, ox⟩) (hcs (h.sl (some ⟨b, off, none⟩) lps.length cL))) ?_; try simp only [Act.put, List.setIfInBounds_toArray, List.set_cons_zero, List.set_cons_succ])
            | (refine wl_at 8 rfl ?_; refine wl_runs rfl (ex_alloc h 44 rfl) ?_; clear h; rintro _ w ⟨g8, rfl, h⟩; try simp only [Act.put, List.setIfInBounds_toArray, List.set_cons_zero, List.set_cons_succ])
            | (refine wl_none rfl ?_; refine wl_runs rfl (ex_store h _ _ _ rfl _ _ rfl ((c_api_Object (u8s oi.1) (.slice oA ol.length oc) (.int .i64 ox))) rfl) ?_; clear h; rintro _ w ⟨rfl, h⟩; try simp only [Act.put, List.setIfInBounds_toArray, List.set_cons_zero, List.set_cons_succ])
            | (refine wl_at 27 rfl ?_; refine wl_reads rfl (ex_loadv h _ _ rfl _ _ rfl) ?_; try simp only [Act.put, List.setIfInBounds_toArray, List.set_cons_zero, List.set_cons_succ]))
          go_loopw [9, 29] (fun fv iv wr => ∃ u : Nat, fv = .bool (fr && (ol.take u).all (okLink (obsM ps) out)) ∧ iv = .int .i64 (u : Int) ∧ u ≤ ol.length ∧ St S w0 wr (eBlk g8 44 ((c_api_Object (u8s oi.1) (.slice oA ol.length oc) (.int .i64 ox))) :: eOwn 44 34 (some ⟨b, off, none⟩) lps.length cL (lps.flatMap obc) :: eOwn 44 34 AO ops.length cO (ops.flatMap obc) :: L)) (fun _ iv _ => ol.length - (intOf iv).toNat)
          case atStart => exact ⟨0, by simp, rfl, Nat.zero_le _, h.to⟩
          case round =>
            clear h
            obtain ⟨u, rfl, rfl, hu, h⟩ := hrel
            obtain ⟨cb, hcb⟩ : ∃ cb, (fr && (ol.take u).all (okLink (obsM ps) out)) = cb := ⟨_, rfl⟩
            rw [hcb]
            by_cases huo : u < ol.length
            · have f3 : (u : Int) < (ol.length : Int) := by omega
              have t2 : ((u : Int)).toNat = u := by omega
              obtain ⟨x, hx⟩ : ∃ x, ol[u] = x := ⟨_, rfl⟩
              have hrx : Row (u8s x.1) 32 := Row.u32 x
              obtain ⟨bX, oX, rfl, _⟩ := ((h.obsAt obc A ps.length c).2 _ Hpp.out).pos (by show 0 < ol.length * 32; omega)
              have hcX : ∀ {w}, Sl w (some ⟨bX, oX, none⟩) ol.length oc 32 (ol.flatMap idc) → Cells w bX (oX + u * 32) (u8s x.1) := fun hs => by rw [← hx]; exact hs.elemAt idc_length huo (by omega)
              have hnx : (fr && (ol.take (u + 1)).all (okLink (obsM ps) out)) = (cb && okLink (obsM ps) out x) := by
                rw [okLink_step huo, hx, ← Bool.and_assoc, hcb]
              have Hnx := Lib.hid hnx
              have hok : okLink (obsM ps) out x = (decide (x ∈ ops.map (·.id)) || !decide (x ∈ ps.map (·.id))) := by
                rw [okLink, placed_mem Hlt.out, Hop.out]
                have : (fstIx (idsOf (obsM ps)) x).isSome = decide (x ∈ ps.map (·.id)) := by
                  rw [ids_obs, Bool.eq_iff_iff, fstIx_isSome, decide_eq_true_eq]
                rw [this, Bool.or_comm]
              obtain ⟨d1, hd1⟩ : ∃ d1, decide (x ∈ ops.map (·.id)) = d1 := ⟨_, rfl⟩
              obtain ⟨d2, hd2⟩ : ∃ d2, decide (x ∈ ps.map (·.id)) = d2 := ⟨_, rfl⟩
              rw [hd1, hd2] at hok
              rw [hok] at hnx Hnx
              obtain ⟨V1, hV1⟩ : ∃ V1, findV (fstIx (ops.map (·.id)) x) = V1 := ⟨_, rfl⟩
              obtain ⟨V2, hV2⟩ : ∃ V2, findV (fstIx (ps.map (·.id)) x) = V2 := ⟨_, rfl⟩
              have g1 : decide (0 ≤ V1) = d1 := by rw [← hV1, findV_ge, hd1]
              have g2 : decide (V2 < 0) = !d2 := by rw [← hV2, findV_lt, hd2]
              have HV1 := Lib.hid hV1
              have HV2 := Lib.hid hV2
              clear hx hcb hnx hok hd1 hd2 hV1 hV2 hfr
              cases cb with
              | false =>
                go_wp2_with (first
                  | (refine wl_at 32 rfl ?_; refine wl_reads rfl (ex_load_at _ _ rfl bX (oX + u * 32) rfl (u8s x.1) (by rw [u8s_length, x.2]) (hcX ((h.obsAt obc A ps.length c).2 _ Hpp.out))) ?_; try simp only [Act.put, List.setIfInBounds_toArray, List.set_cons_zero, List.set_cons_succ])
                  | (refine wl_at 11 rfl ?_; refine wl_runs rfl (ex_alloc h 33 rfl) ?_; clear h; rintro _ w ⟨g11, rfl, h⟩; try simp only [Act.put, List.setIfInBounds_toArray, List.set_cons_zero, List.set_cons_succ])
                  | (refine wl_none rfl ?_; refine wl_runs rfl (ex_store h _ _ _ rfl _ _ rfl (u8s x.1) rfl) ?_; clear h; rintro _ w ⟨rfl, h⟩; try simp only [Act.put, List.setIfInBounds_toArray, List.set_cons_zero, List.set_cons_succ]))
                refine ⟨⟨u + 1, by rw [Hnx.out]; rfl, by push_cast; rfl, by omega, h.to⟩, ?_⟩
                simp only [intOf]
                omega
              | true =>
                have s1 := True.intro
                cases d1 with
                | true =>
                  go_wp2_with (first
                    | (refine wl_at 32 rfl ?_; refine wl_reads rfl (ex_load_at _ _ rfl bX (oX + u * 32) rfl (u8s x.1) (by rw [u8s_length, x.2]) (hcX ((h.obsAt obc A ps.length c).2 _ Hpp.out))) ?_; try simp only [Act.put, List.setIfInBounds_toArray, List.set_cons_zero, List.set_cons_succ])
                    | (refine wl_at 11 rfl ?_; refine wl_runs rfl (ex_alloc h 33 rfl) ?_; clear h; rintro _ w ⟨g11, rfl, h⟩; try simp only [Act.put, List.setIfInBounds_toArray, List.set_cons_zero, List.set_cons_succ])
                    | (refine wl_none rfl ?_; refine wl_runs rfl (ex_store h _ _ _ rfl _ _ rfl (u8s x.1) rfl) ?_; clear h; rintro _ w ⟨rfl, h⟩; try simp only [Act.put, List.setIfInBounds_toArray, List.set_cons_zero, List.set_cons_succ])
                    | (refine wl_at 36 rfl ?_; refine wl_reads rfl (ex_loadv h _ _ rfl _ _ rfl) ?_; try simp only [Act.put, List.setIfInBounds_toArray, List.set_cons_zero, List.set_cons_succ])
                    | (clear s1; go_at_call 33; refine (find_ref (A := AO) (c := cO) (ps := ops) (x := x) (ka := HasObs.miss _ _ _ _ _ _ _ (h := HasObs.miss _ _ _ _ _ _ _ (h := HasObs.miss _ _ _ _ _ _ _ (h := HasObs.sub (B := A) (m := ps.length) (d := c) Hopm.out)))) h hop6).mono ?_; rw [HV1.out]; clear h; rintro r w ⟨rfl, h⟩))
                  refine ⟨⟨u + 1, by rw [Hnx.out]; rfl, by push_cast; rfl, by omega, h.to⟩, ?_⟩
                  simp only [intOf]
                  omega
                | false =>
                  go_wp2_with (first
                    | (refine wl_at 32 rfl ?_; refine wl_reads rfl (ex_load_at _ _ rfl bX (oX + u * 32) rfl (u8s x.1) (by rw [u8s_length, x.2]) (hcX ((h.obsAt obc A ps.length c).2 _ Hpp.out))) ?_; try simp only [Act.put, List.setIfInBounds_toArray, List.set_cons_zero, List.set_cons_succ])
                    | (refine wl_at 11 rfl ?_; refine wl_runs rfl (ex_alloc h 33 rfl) ?_; clear h; rintro _ w ⟨g11, rfl, h⟩; try simp only [Act.put, List.setIfInBounds_toArray, List.set_cons_zero, List.set_cons_succ])
                    | (refine wl_none rfl ?_; refine wl_runs rfl (ex_store h _ _ _ rfl _ _ rfl (u8s x.1) rfl) ?_; clear h; rintro _ w ⟨rfl, h⟩; try simp only [Act.put, List.setIfInBounds_toArray, List.set_cons_zero, List.set_cons_succ])
                    | (refine wl_at 36 rfl ?_; refine wl_reads rfl (ex_loadv h _ _ rfl _ _ rfl) ?_; try simp only [Act.put, List.setIfInBounds_toArray, List.set_cons_zero, List.set_cons_succ])
                    | (refine wl_at 41 rfl ?_; refine wl_reads rfl (ex_loadv h _ _ rfl _ _ rfl) ?_; try simp only [Act.put, List.setIfInBounds_toArray, List.set_cons_zero, List.set_cons_succ])
                    | (clear s1; go_at_call 33; refine (find_ref (A := AO) (c := cO) (ps := ops) (x := x) (ka := HasObs.miss _ _ _ _ _ _ _ (h := HasObs.miss _ _ _ _ _ _ _ (h := HasObs.miss _ _ _ _ _ _ _ (h := HasObs.sub (B := A) (m := ps.length) (d := c) Hopm.out)))) h hop6).mono ?_; rw [HV1.out]; clear h; rintro r w ⟨rfl, h⟩)
                    | (go_at_call 33; refine (find_ref (A := A) (c := c) (ps := ps) (x := x) h hl).mono ?_; rw [HV2.out]; clear h; rintro r w ⟨rfl, h⟩))
                  refine ⟨⟨u + 1, by rw [Hnx.out]; rfl, by push_cast; rfl, by omega, h.to⟩, ?_⟩
                  simp only [intOf]
                  omega
            · obtain rfl : u = ol.length := by omega
              have huu : ¬ ((ol.length : Int) < (ol.length : Int)) := by omega
              rw [List.take_length] at hcb
              have Hcb := Lib.hid hcb
              clear huo hcb
              cases cb with
              | true =>
                have hc := Hcb.out
                rw [Bool.and_eq_true] at hc
                have hv0 : v < 0 := by have := Hfr.out; rw [hc.1] at this; exact of_decide_eq_true this
                have Hv2 : Hid (((j : Int) = -1 ∧ ∀ i, i < j + 1 → ∀ q, (lefts (obsM ps) out)[i]? = some q → freeM (obsM ps) out q = false) ∨ ∃ u : Nat, u < j + 1 ∧ (j : Int) = (u : Int) ∧ (∀ q, (lefts (obsM ps) out)[u]? = some q → freeM (obsM ps) out q = true) ∧ ∀ i, i < u → ∀ q, (lefts (obsM ps) out)[i]? = some q → freeM (obsM ps) out q = false) := Lib.hid (.inr ⟨j, by omega, rfl, fun q hq => by rw [Hfree.out q hq]; exact hc.2, by
                  rcases Hv.out with ⟨_, h1⟩ | ⟨u, _, e, _⟩
                  · exact h1
                  · omega⟩)
                clear hc hv0
                go_wp2
                refine ⟨⟨j + 1, (j : Int), rfl, by push_cast; rfl, by omega, Hv2, h.to⟩, ?_⟩
                simp only [intOf]
                omega
              | false =>
                have Hv2 : Hid ((v = -1 ∧ ∀ i, i < j + 1 → ∀ q, (lefts (obsM ps) out)[i]? = some q → freeM (obsM ps) out q = false) ∨ ∃ u : Nat, u < j + 1 ∧ v = (u : Int) ∧ (∀ q, (lefts (obsM ps) out)[u]? = some q → freeM (obsM ps) out q = true) ∧ ∀ i, i < u → ∀ q, (lefts (obsM ps) out)[i]? = some q → freeM (obsM ps) out q = false) := Lib.hid (by
                  rcases Hv.out with ⟨e, h1⟩ | ⟨u, h0, e, h1, h2⟩
                  · refine .inl ⟨e, fun i hi q hq => ?_⟩
                    rcases Nat.lt_succ_iff_lt_or_eq.1 hi with h3 | rfl
                    · exact h1 i h3 q hq
                    · rw [Hfree.out q hq]
                      have hc := Hcb.out
                      have hf := Hfr.out
                      rw [e] at hf
                      have : fr = true := hf.symm
                      rw [this, Bool.true_and] at hc
                      exact hc
                  · exact .inr ⟨u, by omega, e, h1, h2⟩)
                go_wp2
                refine ⟨⟨j + 1, v, rfl, by push_cast; rfl, by omega, Hv2, h.to⟩, ?_⟩
                simp only [intOf]
                omega
        · obtain rfl : j = lps.length := by omega
          have hjj : ¬ ((lps.length : Int) < (lps.length : Int)) := by omega
          clear hjl hj
          rcases Hv.out with ⟨rfl, hno⟩ | ⟨u, hul, rfl, hyes, hno⟩
          · have hnx : nextM (obsM ps) out = none := next_left_none (fun i hi => hno i (by rw [← Hll.out]; exact hi) _ (List.getElem?_eq_getElem hi))
            have Hfin : Hid ((obsM [], false) = ordR (obsM ps)) := Lib.hid (by
              have hkp : ∃ k', k = k' + 1 := ⟨k - 1, by have := Hk.out; omega⟩
              obtain ⟨k', rfl⟩ := hkp
              rw [ordR, Hinv.out.stuck hnx]; rfl)
            clear hnx hno
            go_wp2
            go_ret2
            replace h : St S w0 _ L := h.to
            exact ⟨none, 0, [], false, rfl, Hfin.out, fun p hp => (by cases hp), h.nilRow _ _⟩
          · have hul2 : u < (lefts (obsM ps) out).length := by rw [Hll.out]; exact hul
            obtain ⟨q, hq⟩ : ∃ q, (lefts (obsM ps) out)[u] = q := ⟨_, rfl⟩
            have hnx : nextM (obsM ps) out = some q := by
              rw [← hq]
              exact next_left_at hul2 (hyes _ (List.getElem?_eq_getElem hul2)) (fun i hi => hno i hi _ (List.getElem?_eq_getElem (Nat.lt_trans hi hul2)))
            obtain ⟨k', rfl⟩ : ∃ k', k = k' + 1 := ⟨k - 1, by have := Hk.out; omega⟩
            have Hinv2 := Lib.hid (Hinv.out.next hnx)
            obtain ⟨p, hp⟩ : ∃ p, lps[u] = p := ⟨_, rfl⟩
            have hqp : ∃ hq2 : q < ps.length, ps[q] = p := by
              obtain ⟨h5, h6⟩ := pickP_get (ps := ps) lefts_all hul2 (by rw [← Hlp.out]; exact hul)
              have h7 : ps[(lefts (obsM ps) out)[u]] = p := by rw [← h6, ← hp]; congr 1; exact Hlp.out.symm
              exact ⟨by rw [← hq]; exact h5, by rw [← h7]; congr 1; exact hq.symm⟩
            have Hop2 : Hid (ops ++ [p] = pickP ps (out ++ [q])) := Lib.hid (by
              obtain ⟨h8, h9⟩ := hqp
              rw [pickP_app, pickP_one ps h8, ← Hop.out, h9])
            have Hlp2 : Hid (lps.take u ++ lps.drop (u + 1) = pickP ps (lefts (obsM ps) (out ++ [q]))) := Lib.hid (by
              rw [← hq, lefts_next hul2, pickP_cut lefts_all, ← Hlp.out])
            obtain ⟨b, off, rfl, _⟩ := (h.sl AL lps.length cL).pos (by omega)
            have hcs : ∀ {w}, Sl w (some ⟨b, off, none⟩) lps.length cL 34 (lps.flatMap obc) → Cells w b (off + u * 34) (obc p) := fun hs => by rw [← hp]; exact hs.elemAt obc_length hul (by omega)
            have hlec := (h.sl (some ⟨b, off, none⟩) lps.length cL).le
            have hcap : cL ≤ 9223372036854775807 := by have := (h.sl (some ⟨b, off, none⟩) lps.length cL).cap; simpa [maxLen] using this
            have t1 : ((u : Int)).toNat = u := by omega
            have f2 : ¬ (u : Int) < 0 := by omega
            have f3 : (u : Int) < (lps.length : Int) := by omega
            have f5 : (0 : Int) ≤ (u : Int) := by omega
            have f6 : (u : Int) ≤ (cL : Int) := by omega
            have f7 : u ≤ cL := by omega
            have f8 : (u : Int) + 1 ≤ (lps.length : Int) := by omega
            have f9 : u + 1 ≤ lps.length := by omega
            have f10 : (lps.length : Int) ≤ (cL : Int) := by omega
            have t2 : ((u : Int) + 1).toNat = u + 1 := by omega
            have w1 : IntKind.i64.wrap ((u : Int) + 1) = (u : Int) + 1 := by rw [IntKind.wrap_i64]; omega
            have f11 : (0 : Int) ≤ (u : Int) + 1 := by omega
            have Hfl := Lib.hid (show (lps.flatMap obc).take (u * 34) ++ (lps.flatMap obc).drop ((u + 1) * 34) = (lps.take u ++ lps.drop (u + 1)).flatMap obc by rw [(flat_cut (by omega)).1, (flat_cut f9).2, List.flatMap_append])
            have Hln := Lib.hid (show (lps.take u ++ lps.drop (u + 1)).length = u + (lps.length - (u + 1)) by simp only [List.length_append, List.length_take, List.length_drop]; omega)
            have g1 : ¬ (u : Int) + 1 < (u : Int) := by omega
            have g2 : ¬ (cL : Int) < (u : Int) := by omega
            have hone := obcs_one lps
            have Hone := Lib.hid hone
            clear hnx hyes hno hq hp hqp hul2 hone
            obtain ⟨oA, on, oc, oi, ol, ox⟩ := p
            have hro : Row (u8s oi.1) 32 := Row.u32 oi
            by_cases hc : cL = u + 1
            · have hr0 : lps.length - (u + 1) = 0 := by omega
              have e1 : (lps.length : Int) - ((u : Int) + 1) = 0 := by omega
              have htl : ∀ {w}, Sl w (some ⟨b, off, none⟩) lps.length cL 34 (lps.flatMap obc) → Sl w (some ⟨b, off, none⟩) (lps.length - (u + 1)) (cL - (u + 1)) 34 ((lps.flatMap obc).drop ((u + 1) * 34)) := fun hs => by have := hs.drop f9; rwa [if_pos hc] at this
              go_upto_region 20 with (first
                | (refine wl_at 56 rfl ?_; refine wl_reads rfl (ex_load_at _ _ rfl b (off + u * 34) rfl ((c_api_Object (u8s oi.1) (.slice oA on oc) (.int .i64 ox))) (obc_length ⟨oA, on, oc, oi, ol, ox⟩) (hcs (h.sl (some ⟨b, off, none⟩) lps.length cL))) ?_; try simp only [Act.put, List.setIfInBounds_toArray, List.set_cons_zero, List.set_cons_succ])
                | (refine wl_at 57 rfl ?_; refine wl_runs rfl (ex_slice1 h _ _ rfl ((c_api_Object (u8s oi.1) (.slice oA on oc) (.int .i64 ox))) rfl) ?_; clear h; rintro _ w ⟨gq, rfl, h⟩; try simp only [Act.put, List.setIfInBounds_toArray, List.set_cons_zero, List.set_cons_succ])
                | (refine wl_at 58 rfl ?_; refine wl_runs rfl (ex_append h _ _ _ rfl AO rfl (some ⟨gq, 0, none⟩) 1 1 rfl (h.slBox gq) (inferInstance : Row ((c_api_Object (u8s oi.1) (.slice oA on oc) (.int .i64 ox))) 34).one (by simp [maxLen]; omega) (by omega)) ?_; clear h; rintro _ w ⟨AO2, cO2, rfl, h⟩; try simp only [Act.put, List.setIfInBounds_toArray, List.set_cons_zero, List.set_cons_succ]))
              refine wp_region_K 8 (fun w' => St _ _ w' _) (by kernel_rfl) h.drew ?_; replace h := h.drew
              refine wpAnyK_pure 59 (v := ?_) (i := 0) (fuel := 9) rfl rfl (by kernel_rfl) (by kernel_rfl) (by kernel_rfl) (by decide) (fun _ _ _ h => h) (Or.inl ⟨by rfl, fun w _ => ?_⟩) ?_; rotate_left; (go_simp; with_reducible rfl); simp only [Act.put, List.setIfInBounds_toArray, List.set_cons_zero, List.set_cons_succ]
              refine wpAnyK_pure 60 (v := ?_) (i := 1) (fuel := 8) rfl rfl (by kernel_rfl) (by kernel_rfl) (by kernel_rfl) (by decide) (fun _ _ _ h => h) (Or.inl ⟨by rfl, fun w _ => ?_⟩) ?_; rotate_left; (go_simp; with_reducible rfl); simp only [Act.put, List.setIfInBounds_toArray, List.set_cons_zero, List.set_cons_succ]
              refine wpAnyK_pure 61 (v := ?_) (i := 2) (fuel := 7) rfl rfl (by kernel_rfl) (by kernel_rfl) (by kernel_rfl) (by decide) (fun _ _ _ h => h) (Or.inl ⟨by rfl, fun w _ => ?_⟩) ?_; rotate_left; (go_simp; with_reducible rfl); simp only [Act.put, List.setIfInBounds_toArray, List.set_cons_zero, List.set_cons_succ]
              refine wpAnyK_pure 62 (v := (.slice (some ⟨b, off, none⟩) u u)) (i := 3) (fuel := 6) rfl rfl (by kernel_rfl) (by kernel_rfl) (by kernel_rfl) (by decide) (fun _ _ _ h => h) (Or.inl ⟨by rfl, fun w _ => (by go_simp)⟩) ?_; simp only [Act.put, List.setIfInBounds_toArray, List.set_cons_zero, List.set_cons_succ]
              refine wpAnyK_pure 63 (v := ?_) (i := 4) (fuel := 5) rfl rfl (by kernel_rfl) (by kernel_rfl) (by kernel_rfl) (by decide) (fun _ _ _ h => h) (Or.inl ⟨by rfl, fun w _ => ?_⟩) ?_; rotate_left; (go_simp; with_reducible rfl); simp only [Act.put, List.setIfInBounds_toArray, List.set_cons_zero, List.set_cons_succ]
              refine wpAnyK_pure 64 (v := ?_) (i := 5) (fuel := 4) rfl rfl (by kernel_rfl) (by kernel_rfl) (by kernel_rfl) (by decide) (fun _ _ _ h => h) (Or.inl ⟨by rfl, fun w _ => ?_⟩) ?_; rotate_left; (go_simp; with_reducible rfl); simp only [Act.put, List.setIfInBounds_toArray, List.set_cons_zero, List.set_cons_succ]
              refine wpAnyK_pure 65 (v := ?_) (i := 6) (fuel := 3) rfl rfl (by kernel_rfl) (by kernel_rfl) (by kernel_rfl) (by decide) (fun _ _ _ h => h) (Or.inl ⟨by rfl, fun w _ => ?_⟩) ?_; rotate_left; (go_simp; with_reducible rfl); simp only [Act.put, List.setIfInBounds_toArray, List.set_cons_zero, List.set_cons_succ]
              refine wpAnyK_pure 66 (v := (.slice (some ⟨b, off, none⟩) (lps.length - (u + 1)) (cL - (u + 1)))) (i := 7) (fuel := 2) rfl rfl (by kernel_rfl) (by kernel_rfl) (by kernel_rfl) (by decide) (fun _ _ _ h => h) (Or.inl ⟨by rfl, fun w _ => (by go_simp)⟩) ?_; simp only [Act.put, List.setIfInBounds_toArray, List.set_cons_zero, List.set_cons_succ]
              refine wpAnyK_one (i := 8) (fuel := 1) rfl (by kernel_rfl) rfl (fun K hK => ?_)
              refine op_runs (some 67) rfl (ex_append (h.capRow (some ⟨b, off, none⟩) u (by omega)) _ _ _ rfl (some ⟨b, off, none⟩) rfl (some ⟨b, off, none⟩) (lps.length - (u + 1)) (cL - (u + 1)) rfl (htl (h.sl (some ⟨b, off, none⟩) lps.length cL)) (fun v hv => Hone.out v (List.mem_of_mem_drop hv)) (by simp [maxLen]; omega) (by omega)) ?_; clear h; rintro _ w ⟨A2, c2, rfl, h⟩; rw [Hfl.out] at h; refine hK.out _ _ (SJ.past (by kernel_rfl)) ?_; clear hK K
              try simp only [Act.put, List.setIfInBounds_toArray, List.set_cons_zero, List.set_cons_succ]
              refine wpAnyK_pure 4 (v := ?_) (i := 9) (fuel := 0) rfl rfl (by kernel_rfl) (by kernel_rfl) (by kernel_rfl) (by decide) (fun _ _ _ h => h) (Or.inl ⟨by rfl, fun w _ => ?_⟩) ?_; rotate_left; (go_simp; with_reducible rfl); simp only [Act.put, List.setIfInBounds_toArray, List.set_cons_zero, List.set_cons_succ]
              refine wpAnyK_done (by kernel_rfl) ?_
              have e3 : ops.length + 1 = (ops ++ [(⟨oA, on, oc, oi, ol, ox⟩ : ObAt)]).length := by simp
              have e4 : ops.flatMap obc ++ (c_api_Object (u8s oi.1) (.slice oA on oc) (.int .i64 ox)) = (ops ++ [(⟨oA, on, oc, oi, ol, ox⟩ : ObAt)]).flatMap obc := by simp
              rw [← Hln.out, e3, e4] at h
              have hk1 := Hk.out
              have hs1 := Hsum.out
              have hl1 := Hln.out
              go_wp2
              refine ⟨⟨k', out ++ [q], lps.take u ++ lps.drop (u + 1), ops ++ [⟨oA, on, oc, oi, ol, ox⟩], A2, AO2, c2, cO2, (by first | (rw [Hln.out]; done) | (rw [Hln.out, hr0, Nat.add_zero])), by simp, Hlp2, Hop2, by omega, by rw [← e3]; omega, Hinv2, h.to⟩, ?_⟩
              simp only [slLen]
              omega
            · have htl : ∀ {w}, Sl w (some ⟨b, off, none⟩) lps.length cL 34 (lps.flatMap obc) → Sl w (some ⟨b, off + (u + 1) * 34, none⟩) (lps.length - (u + 1)) (cL - (u + 1)) 34 ((lps.flatMap obc).drop ((u + 1) * 34)) := fun hs => by have := hs.drop f9; rwa [if_neg hc, Option.map_some, add_none] at this
              go_upto_region 20 with (first
                | (refine wl_at 56 rfl ?_; refine wl_reads rfl (ex_load_at _ _ rfl b (off + u * 34) rfl ((c_api_Object (u8s oi.1) (.slice oA on oc) (.int .i64 ox))) (obc_length ⟨oA, on, oc, oi, ol, ox⟩) (hcs (h.sl (some ⟨b, off, none⟩) lps.length cL))) ?_; try simp only [Act.put, List.setIfInBounds_toArray, List.set_cons_zero, List.set_cons_succ])
                | (refine wl_at 57 rfl ?_; refine wl_runs rfl (ex_slice1 h _ _ rfl ((c_api_Object (u8s oi.1) (.slice oA on oc) (.int .i64 ox))) rfl) ?_; clear h; rintro _ w ⟨gq, rfl, h⟩; try simp only [Act.put, List.setIfInBounds_toArray, List.set_cons_zero, List.set_cons_succ])
                | (refine wl_at 58 rfl ?_; refine wl_runs rfl (ex_append h _ _ _ rfl AO rfl (some ⟨gq, 0, none⟩) 1 1 rfl (h.slBox gq) (inferInstance : Row ((c_api_Object (u8s oi.1) (.slice oA on oc) (.int .i64 ox))) 34).one (by simp [maxLen]; omega) (by omega)) ?_; clear h; rintro _ w ⟨AO2, cO2, rfl, h⟩; try simp only [Act.put, List.setIfInBounds_toArray, List.set_cons_zero, List.set_cons_succ]))
              refine wp_region_K 8 (fun w' => St _ _ w' _) (by kernel_rfl) h.drew ?_; replace h := h.drew
              refine wpAnyK_pure 59 (v := ?_) (i := 0) (fuel := 9) rfl rfl (by kernel_rfl) (by kernel_rfl) (by kernel_rfl) (by decide) (fun _ _ _ h => h) (Or.inl ⟨by rfl, fun w _ => ?_⟩) ?_; rotate_left; (go_simp; with_reducible rfl); simp only [Act.put, List.setIfInBounds_toArray, List.set_cons_zero, List.set_cons_succ]
              refine wpAnyK_pure 60 (v := ?_) (i := 1) (fuel := 8) rfl rfl (by kernel_rfl) (by kernel_rfl) (by kernel_rfl) (by decide) (fun _ _ _ h => h) (Or.inl ⟨by rfl, fun w _ => ?_⟩) ?_; rotate_left; (go_simp; with_reducible rfl); simp only [Act.put, List.setIfInBounds_toArray, List.set_cons_zero, List.set_cons_succ]
              refine wpAnyK_pure 61 (v := ?_) (i := 2) (fuel := 7) rfl rfl (by kernel_rfl) (by kernel_rfl) (by kernel_rfl) (by decide) (fun _ _ _ h => h) (Or.inl ⟨by rfl, fun w _ => ?_⟩) ?_; rotate_left; (go_simp; with_reducible rfl); simp only [Act.put, List.setIfInBounds_toArray, List.set_cons_zero, List.set_cons_succ]
              refine wpAnyK_pure 62 (v := (.slice (some ⟨b, off, none⟩) u u)) (i := 3) (fuel := 6) rfl rfl (by kernel_rfl) (by kernel_rfl) (by kernel_rfl) (by decide) (fun _ _ _ h => h) (Or.inl ⟨by rfl, fun w _ => (by go_simp)⟩) ?_; simp only [Act.put, List.setIfInBounds_toArray, List.set_cons_zero, List.set_cons_succ]
              refine wpAnyK_pure 63 (v := ?_) (i := 4) (fuel := 5) rfl rfl (by kernel_rfl) (by kernel_rfl) (by kernel_rfl) (by decide) (fun _ _ _ h => h) (Or.inl ⟨by rfl, fun w _ => ?_⟩) ?_; rotate_left; (go_simp; with_reducible rfl); simp only [Act.put, List.setIfInBounds_toArray, List.set_cons_zero, List.set_cons_succ]
              refine wpAnyK_pure 64 (v := ?_) (i := 5) (fuel := 4) rfl rfl (by kernel_rfl) (by kernel_rfl) (by kernel_rfl) (by decide) (fun _ _ _ h => h) (Or.inl ⟨by rfl, fun w _ => ?_⟩) ?_; rotate_left; (go_simp; with_reducible rfl); simp only [Act.put, List.setIfInBounds_toArray, List.set_cons_zero, List.set_cons_succ]
              refine wpAnyK_pure 65 (v := ?_) (i := 6) (fuel := 3) rfl rfl (by kernel_rfl) (by kernel_rfl) (by kernel_rfl) (by decide) (fun _ _ _ h => h) (Or.inl ⟨by rfl, fun w _ => ?_⟩) ?_; rotate_left; (go_simp; with_reducible rfl); simp only [Act.put, List.setIfInBounds_toArray, List.set_cons_zero, List.set_cons_succ]
              refine wpAnyK_pure 66 (v := (.slice (some ⟨b, off + (u + 1) * 34, none⟩) (lps.length - (u + 1)) (cL - (u + 1)))) (i := 7) (fuel := 2) rfl rfl (by kernel_rfl) (by kernel_rfl) (by kernel_rfl) (by decide) (fun _ _ _ h => h) (Or.inl ⟨by rfl, fun w _ => (by go_simp)⟩) ?_; simp only [Act.put, List.setIfInBounds_toArray, List.set_cons_zero, List.set_cons_succ]
              refine wpAnyK_one (i := 8) (fuel := 1) rfl (by kernel_rfl) rfl (fun K hK => ?_)
              refine op_runs (some 67) rfl (ex_append (h.capRow (some ⟨b, off, none⟩) u (by omega)) _ _ _ rfl (some ⟨b, off, none⟩) rfl (some ⟨b, off + (u + 1) * 34, none⟩) (lps.length - (u + 1)) (cL - (u + 1)) rfl (htl (h.sl (some ⟨b, off, none⟩) lps.length cL)) (fun v hv => Hone.out v (List.mem_of_mem_drop hv)) (by simp [maxLen]; omega) (by omega)) ?_; clear h; rintro _ w ⟨A2, c2, rfl, h⟩; rw [Hfl.out] at h; refine hK.out _ _ (SJ.past (by kernel_rfl)) ?_; clear hK K
              try simp only [Act.put, List.setIfInBounds_toArray, List.set_cons_zero, List.set_cons_succ]
              refine wpAnyK_pure 4 (v := ?_) (i := 9) (fuel := 0) rfl rfl (by kernel_rfl) (by kernel_rfl) (by kernel_rfl) (by decide) (fun _ _ _ h => h) (Or.inl ⟨by rfl, fun w _ => ?_⟩) ?_; rotate_left; (go_simp; with_reducible rfl); simp only [Act.put, List.setIfInBounds_toArray, List.set_cons_zero, List.set_cons_succ]
              refine wpAnyK_done (by kernel_rfl) ?_
              have e3 : ops.length + 1 = (ops ++ [(⟨oA, on, oc, oi, ol, ox⟩ : ObAt)]).length := by simp
              have e4 : ops.flatMap obc ++ (c_api_Object (u8s oi.1) (.slice oA on oc) (.int .i64 ox)) = (ops ++ [(⟨oA, on, oc, oi, ol, ox⟩ : ObAt)]).flatMap obc := by simp
              rw [← Hln.out, e3, e4] at h
              have hk1 := Hk.out
              have hs1 := Hsum.out
              have hl1 := Hln.out
              go_wp2
              refine ⟨⟨k', out ++ [q], lps.take u ++ lps.drop (u + 1), ops ++ [⟨oA, on, oc, oi, ol, ox⟩], A2, AO2, c2, cO2, (by first | (rw [Hln.out]; done) | (rw [Hln.out, hr0, Nat.add_zero])), by simp, Hlp2, Hop2, by omega, by rw [← e3]; omega, Hinv2, h.to⟩, ?_⟩
              simp only [slLen]
              omega
    · have hz0 : lps.length = 0 := by omega
      have f0 : ¬ (0 : Int) < (lps.length : Int) := by omega
      have Hfin : Hid ((obsM ops, true) = ordR (obsM ps)) := Lib.hid (by
        have hk0 : k = 0 := by have := Hk.out; omega
        subst hk0
        rw [ordR, Hinv.out.end_, Hop.out, pickP_obs])
      clear hz hz0
      go_wp2
      go_ret2
      exact ⟨AO, cO, ops, true, rfl, Hfin.out, Hopm.out, h.to⟩
end Go.Proofs.Ytionnlckjjojnaa
