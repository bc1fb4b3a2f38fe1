/- mark.Order: objects placed one behind the other. -/
import Derived.Test.YtionnlckjjojnaaCMarkSweeps
import Derived.Test.YtionnlckjjojnaaCB1
import Derived.Test.YtionnlckjjojnaaCB2
namespace Go.Proofs.Ytionnlckjjojnaa
open Go.RowKit Go.Maps
set_option linter.unusedVariables false
set_option linter.unusedSimpArgs false

/-- What the places say. -/
def DoneIs (os : List Ob) (dm : List (Id × Bool)) (out : List Nat) : Prop := ∀ x, mget dm x = if (out.any fun j => decide ((idsOf os)[j]? = some x)) = true then some true else none
def usedV (n : Nat) (out : List Nat) : List Value := (List.range n).map fun i => .bool (out.contains i)
theorem usedV_length (n : Nat) (out : List Nat) : (usedV n out).length = n := by simp [usedV]
theorem usedV_get {n : Nat} {out : List Nat} {i : Nat} (h : i < n) : (usedV n out)[i]? = some (.bool (out.contains i)) := by simp [usedV, h]
theorem usedV_set {n : Nat} {out : List Nat} {i : Nat} (h : i < n) : (usedV n out).set i (.bool true) = usedV n (out ++ [i]) := by
  apply List.ext_getElem?
  intro j
  rw [List.getElem?_set]
  by_cases hj : i = j
  · subst hj
    rw [if_pos rfl, if_pos (by rw [usedV_length]; exact h), usedV_get h]
    simp
  · rw [if_neg hj]
    rcases Nat.lt_or_ge j n with h2 | h2
    · rw [usedV_get h2, usedV_get h2]
      congr 2
      rw [Bool.eq_iff_iff]
      simp only [List.contains_eq_mem, decide_eq_true_eq, List.mem_append, List.mem_singleton]
      exact ⟨.inl, fun h => h.resolve_right (fun e => hj e.symm)⟩
    · rw [List.getElem?_eq_none (by rw [usedV_length]; exact h2), List.getElem?_eq_none (by rw [usedV_length]; exact h2)]
theorem DoneIs.next {os : List Ob} {dm : List (Id × Bool)} {out : List Nat} (h : DoneIs os dm out) {i : Nat} {y : Id} (hi : (idsOf os)[i]? = some y) : DoneIs os (mset dm y true) (out ++ [i]) := fun x => by
  rw [mget_set, h x, List.any_append]
  by_cases hx : x = y
  · subst hx
    have e2 : ([i].any fun j => decide ((idsOf os)[j]? = some x)) = true := by
      rw [List.any_cons, List.any_nil, Bool.or_false]
      exact decide_eq_true hi
    rw [if_pos rfl, e2, Bool.or_true, if_pos rfl]
  · have e2 : ([i].any fun j => decide ((idsOf os)[j]? = some x)) = false := by
      rw [List.any_cons, List.any_nil, Bool.or_false]
      exact decide_eq_false (by rw [hi]; exact fun e => hx (Option.some.inj e).symm)
    rw [if_neg hx, e2, Bool.or_false]
/-- Whether a link lets its object be placed. -/
def okLink (os : List Ob) (out : List Nat) (x : Id) : Bool := !(fstIx (idsOf os) x).isSome || out.any fun j => decide ((idsOf os)[j]? = some x)
theorem freeM_eq (os : List Ob) (out : List Nat) (i : Nat) : freeM os out i = (linksAt os i).all (okLink os out) := rfl
/-- A placing: where its parts lie. -/
abbrev plc (A U : Option Addr) (n c : Nat) (ga gd : Nat) : List Value := c_mark_placing (.slice A n c) (.map (some ga)) (.map (some gd)) (.slice U n n)
theorem okLink_step {os : List Ob} {out : List Nat} {ids : List Id} {k : Nat} (hk : k < ids.length) : (ids.take (k + 1)).all (okLink os out) = ((ids.take k).all (okLink os out) && okLink os out ids[k]) := by
  rw [List.take_succ_eq_append_getElem hk, List.all_append]
  simp
set_option maxRecDepth 100000 in
set_option maxHeartbeats 2000000 in
theorem free_code {S : Nat → Prop} {w0 w : World} {L F1 F2 F3 : List Ent} {gp ga gd n c oc : Nat} {A U oA : Option Addr} {mi : List (Id × Nat)} {dm : List (Id × Bool)} {os : List Ob} {out : List Nat} {oi : Id} {ol : List Id} {ox : Int} (h : St S w0 w L) [kb : SlotB L gp 71 (plc A U n c ga gd) F1] [kl : HasSl L oA ol.length oc 32 (ol.flatMap idc)]
    [km : SlotM L ga idv natI mi F2] [kd : SlotM L gd idv boV dm F3] (Hmi : Hid (∀ x, mget mi x = fstIx (idsOf os) x)) (Hdm : Hid (DoneIs os dm out)) (hl : ol.length ≤ 1000000) :
    Calls Try.prog 63 #[.pointer (some ⟨gp, 0, none⟩), .agg (c_api_Object (u8s oi.1) (.slice oA ol.length oc) (.int .i64 ox)).toArray] w fun e w' => e = .returned (.bool (ol.all (okLink os out))) ∧ St S w0 w' L := by
  have hro : Row (u8s oi.1) 32 := Row.u32 oi
  go_enter Try.func63, Try.ntmps63
  go_wp2_with (first
    | (refine wl_runs rfl (ex_box h 44 _ rfl (c_api_Object (u8s oi.1) (.slice oA ol.length oc) (.int .i64 ox)) rfl) ?_; clear h; rintro _ w ⟨g3, rfl, h⟩; try simp only [Act.put, List.setIfInBounds_toArray, List.set_cons_zero, List.set_cons_succ])
    | (refine wl_at 10 rfl ?_; refine wl_reads rfl (ex_loadv h _ _ rfl _ _ rfl) ?_; try simp only [Act.put, List.setIfInBounds_toArray, List.set_cons_zero, List.set_cons_succ]))
  go_loopw [12] (fun iv wr => ∃ k : Nat, iv = .int .i64 (k : Int) ∧ k ≤ ol.length ∧ Hid ((ol.take k).all (okLink os out) = true) ∧ St S w0 wr L) (fun iv _ => ol.length - (intOf iv).toNat)
  case atStart => exact ⟨0, rfl, Nat.zero_le _, Lib.hid (by simp), h.to⟩
  case round =>
    clear h
    obtain ⟨k, rfl, hk, Hall, h⟩ := hrel
    by_cases hkl : k < ol.length
    · have f2 : (k : Int) < (ol.length : Int) := by omega
      have t1 : ((k : Int)).toNat = k := by omega
      obtain ⟨x, hx⟩ : ∃ x, ol[k] = x := ⟨_, rfl⟩
      have hrx : Row (u8s x.1) 32 := Row.u32 x
      obtain ⟨b, off, rfl, _⟩ := (h.sl oA ol.length oc).pos (by omega)
      have hcs : ∀ {w}, Sl w (some ⟨b, off, none⟩) ol.length oc 32 (ol.flatMap idc) → Cells w b (off + k * 32) (u8s x.1) := fun hs => by rw [← hx]; exact hs.elemAt idc_length hkl (by omega)
      have hst := okLink_step (os := os) (out := out) hkl
      rw [hx, Hall.out, Bool.true_and] at hst
      have Hst := Lib.hid hst
      have hmx := Hmi.out x
      have hdx := Hdm.out x
      have Hxm : Hid (x ∈ ol) := Lib.hid (by rw [← hx]; exact List.getElem_mem _)
      clear hst hx
      cases hf : fstIx (idsOf os) x with
      | none =>
        have Hok : Hid (okLink os out x = true) := Lib.hid (by rw [okLink, hf]; rfl)
        rw [hf] at hmx
        rw [Hok.out] at Hst
        clear hf hdx
        go_upto_region 4 with (first
          | (refine wl_at 15 rfl ?_; refine wl_reads rfl (ex_load_at _ _ rfl b (off + k * 32) rfl (u8s x.1) (by rw [u8s_length, x.2]) (hcs (h.sl (some ⟨b, off, none⟩) ol.length oc))) ?_; try simp only [Act.put, List.setIfInBounds_toArray, List.set_cons_zero, List.set_cons_succ])
          | (refine wl_at 6 rfl ?_; refine wl_runs rfl (ex_alloc h 33 rfl) ?_; clear h; rintro _ w ⟨g6, rfl, h⟩; try simp only [Act.put, List.setIfInBounds_toArray, List.set_cons_zero, List.set_cons_succ])
          | (refine wl_none rfl ?_; refine wl_runs rfl (ex_store h _ _ _ rfl _ _ rfl (u8s x.1) rfl) ?_; clear h; rintro _ w ⟨rfl, h⟩; try simp only [Act.put, List.setIfInBounds_toArray, List.set_cons_zero, List.set_cons_succ]))
        refine wp_region_K 11 (fun w' => St _ _ w' _) (by kernel_rfl) h.drew ?_; replace h := h.drew
        refine wpAnyK_pure 17 (v := ?_) (i := 0) (fuel := 10) rfl rfl (by kernel_rfl) (by kernel_rfl) (by kernel_rfl) (by decide) (fun _ _ _ h => h) (Or.inl ⟨by rfl, fun w _ => ?_⟩) ?_; rotate_left; (go_simp; with_reducible rfl); simp only [Act.put, List.setIfInBounds_toArray, List.set_cons_zero, List.set_cons_succ]
        refine wpAnyK_pure 18 (v := ?_) (i := 1) (fuel := 9) rfl rfl (by kernel_rfl) (by kernel_rfl) (by kernel_rfl) (by decide) (fun _ _ _ h => h) (Or.inl ⟨by rfl, fun w _ => ?_⟩) ?_; rotate_left; (go_simp; with_reducible rfl); simp only [Act.put, List.setIfInBounds_toArray, List.set_cons_zero, List.set_cons_succ]
        refine wpAnyK_pure 19 (v := ?_) (i := 2) (fuel := 8) rfl rfl (by kernel_rfl) (by kernel_rfl) (by kernel_rfl) (by decide) (fun _ _ _ h => h) (Or.inl ⟨by rfl, fun w _ => ?_⟩) ?_; rotate_left; (go_simp; with_reducible rfl); simp only [Act.put, List.setIfInBounds_toArray, List.set_cons_zero, List.set_cons_succ]
        refine wpAnyK_load 20 (i := 3) (fuel := 7) rfl rfl (by kernel_rfl) (by kernel_rfl) (by kernel_rfl) (.inr (by decide)) (by decide) (fun _ _ _ h => h) rfl (fun w h => ex_loadv h _ _ rfl _ _ rfl) ?_; simp only [Act.put, List.setIfInBounds_toArray, List.set_cons_zero, List.set_cons_succ]
        refine wpAnyK_load 21 (i := 4) (fuel := 6) rfl rfl (by kernel_rfl) (by kernel_rfl) (by kernel_rfl) (.inr (by decide)) (by decide) (fun _ _ _ h => h) rfl (fun w h => ex_loadv h _ _ rfl _ _ rfl) ?_; simp only [Act.put, List.setIfInBounds_toArray, List.set_cons_zero, List.set_cons_succ]
        refine wpAnyK_load 22 (i := 5) (fuel := 5) rfl rfl (by kernel_rfl) (by kernel_rfl) (by kernel_rfl) (.inr (by decide)) (by decide) (fun _ _ _ h => h) rfl (fun w h => ex_look_none idv natI h _ _ _ rfl ga rfl x rfl hmx) ?_; simp only [Act.put, List.setIfInBounds_toArray, List.set_cons_zero, List.set_cons_succ]
        refine wpAnyK_pure 16 (v := ?_) (i := 6) (fuel := 4) rfl rfl (by kernel_rfl) (by kernel_rfl) (by kernel_rfl) (by decide) (fun _ _ _ h => h) (Or.inl ⟨by rfl, fun w _ => ?_⟩) ?_; rotate_left; (go_simp; with_reducible rfl); simp only [Act.put, List.setIfInBounds_toArray, List.set_cons_zero, List.set_cons_succ]
        refine wpAnyK_pure 23 (v := ?_) (i := 7) (fuel := 3) rfl rfl (by kernel_rfl) (by kernel_rfl) (by kernel_rfl) (by decide) (fun _ _ _ h => h) (Or.inl ⟨by rfl, fun w _ => ?_⟩) ?_; rotate_left; (go_simp; with_reducible rfl); simp only [Act.put, List.setIfInBounds_toArray, List.set_cons_zero, List.set_cons_succ]
        refine wpAnyK_pure 24 (v := ?_) (i := 8) (fuel := 2) rfl rfl (by kernel_rfl) (by kernel_rfl) (by kernel_rfl) (by decide) (fun _ _ _ h => h) (Or.inl ⟨by rfl, fun w _ => ?_⟩) ?_; rotate_left; (go_simp; with_reducible rfl); simp only [Act.put, List.setIfInBounds_toArray, List.set_cons_zero, List.set_cons_succ]
        refine wpAnyK_pure 7 (v := ?_) (i := 9) (fuel := 1) rfl rfl (by kernel_rfl) (by kernel_rfl) (by kernel_rfl) (by decide) (fun _ _ _ h => h) (Or.inl ⟨by rfl, fun w _ => ?_⟩) ?_; rotate_left; (go_simp; with_reducible rfl); simp only [Act.put, List.setIfInBounds_toArray, List.set_cons_zero, List.set_cons_succ]
        refine wpAnyK_pure 8 (v := ?_) (i := 10) (fuel := 0) rfl rfl (by kernel_rfl) (by kernel_rfl) (by kernel_rfl) (by decide) (fun _ _ _ h => h) (Or.inl ⟨by rfl, fun w _ => ?_⟩) ?_; rotate_left; (go_simp; with_reducible rfl); simp only [Act.put, List.setIfInBounds_toArray, List.set_cons_zero, List.set_cons_succ]
        refine wpAnyK_done (by kernel_rfl) ?_
        go_upto_region 5 with fail
        refine wp_region_K 10 (fun w' => St _ _ w' _) (by kernel_rfl) h.drew ?_; replace h := h.drew
        refine wpAnyK_pure 25 (v := ?_) (i := 0) (fuel := 9) rfl rfl (by kernel_rfl) (by kernel_rfl) (by kernel_rfl) (by decide) (fun _ _ _ h => h) (Or.inl ⟨by rfl, fun w _ => ?_⟩) ?_; rotate_left; (go_simp; with_reducible rfl); simp only [Act.put, List.setIfInBounds_toArray, List.set_cons_zero, List.set_cons_succ]
        refine wpAnyK_pure 26 (v := ?_) (i := 1) (fuel := 8) rfl rfl (by kernel_rfl) (by kernel_rfl) (by kernel_rfl) (by decide) (fun _ _ _ h => h) (Or.inl ⟨by rfl, fun w _ => ?_⟩) ?_; rotate_left; (go_simp; with_reducible rfl); simp only [Act.put, List.setIfInBounds_toArray, List.set_cons_zero, List.set_cons_succ]
        refine wpAnyK_not 27 (i := 2) (fuel := 7) rfl rfl (by kernel_rfl) (by kernel_rfl) (by kernel_rfl) (by decide) (fun _ _ _ h => h) (by rfl) ?_; simp only [Act.put, List.setIfInBounds_toArray, List.set_cons_zero, List.set_cons_succ]
        refine wpAnyK_not 28 (i := 3) (fuel := 6) rfl rfl (by kernel_rfl) (by kernel_rfl) (by kernel_rfl) (by decide) (fun _ _ _ h => h) (by rfl) ?_; simp only [Act.put, List.setIfInBounds_toArray, List.set_cons_zero, List.set_cons_succ]
        refine wpAnyK_not 29 (i := 4) (fuel := 5) rfl rfl (by kernel_rfl) (by kernel_rfl) (by kernel_rfl) (by decide) (fun _ _ _ h => h) (by rfl) ?_; simp only [Act.put, List.setIfInBounds_toArray, List.set_cons_zero, List.set_cons_succ]
        refine wpAnyK_not 30 (i := 5) (fuel := 4) rfl rfl (by kernel_rfl) (by kernel_rfl) (by kernel_rfl) (by decide) (fun _ _ _ h => h) (by rfl) ?_; simp only [Act.put, List.setIfInBounds_toArray, List.set_cons_zero, List.set_cons_succ]
        refine wpAnyK_not 31 (i := 6) (fuel := 3) rfl rfl (by kernel_rfl) (by kernel_rfl) (by kernel_rfl) (by decide) (fun _ _ _ h => h) (by rfl) ?_; simp only [Act.put, List.setIfInBounds_toArray, List.set_cons_zero, List.set_cons_succ]
        refine wpAnyK_not 32 (i := 7) (fuel := 2) rfl rfl (by kernel_rfl) (by kernel_rfl) (by kernel_rfl) (by decide) (fun _ _ _ h => h) (by rfl) ?_; simp only [Act.put, List.setIfInBounds_toArray, List.set_cons_zero, List.set_cons_succ]
        refine wpAnyK_not 33 (i := 8) (fuel := 1) rfl rfl (by kernel_rfl) (by kernel_rfl) (by kernel_rfl) (by decide) (fun _ _ _ h => h) (by rfl) ?_; simp only [Act.put, List.setIfInBounds_toArray, List.set_cons_zero, List.set_cons_succ]
        refine wpAnyK_pure 34 (v := ?_) (i := 9) (fuel := 0) rfl rfl (by kernel_rfl) (by kernel_rfl) (by kernel_rfl) (by decide) (fun _ _ _ h => h) (Or.inl ⟨by rfl, fun w _ => ?_⟩) ?_; rotate_left; (go_simp; with_reducible rfl); simp only [Act.put, List.setIfInBounds_toArray, List.set_cons_zero, List.set_cons_succ]
        refine wpAnyK_done (by kernel_rfl) ?_
        go_wp2
        refine ⟨⟨k + 1, by push_cast; rfl, by omega, Hst, h.to⟩, ?_⟩
        simp only [intOf]
        omega
      | some q =>
        have hmx2 : mget mi x = some q := by rw [hmx, hf]
        cases hany : (out.any fun j => decide ((idsOf os)[j]? = some x)) with
        | true =>
          have Hok : Hid (okLink os out x = true) := Lib.hid (by rw [okLink, hany, Bool.or_true])
          rw [hany, if_pos rfl] at hdx
          rw [Hok.out] at Hst
          clear hf hmx hany
          go_upto_region 4 with (first
            | (refine wl_at 15 rfl ?_; refine wl_reads rfl (ex_load_at _ _ rfl b (off + k * 32) rfl (u8s x.1) (by rw [u8s_length, x.2]) (hcs (h.sl (some ⟨b, off, none⟩) ol.length oc))) ?_; try simp only [Act.put, List.setIfInBounds_toArray, List.set_cons_zero, List.set_cons_succ])
            | (refine wl_at 6 rfl ?_; refine wl_runs rfl (ex_alloc h 33 rfl) ?_; clear h; rintro _ w ⟨g6, rfl, h⟩; try simp only [Act.put, List.setIfInBounds_toArray, List.set_cons_zero, List.set_cons_succ])
            | (refine wl_none rfl ?_; refine wl_runs rfl (ex_store h _ _ _ rfl _ _ rfl (u8s x.1) rfl) ?_; clear h; rintro _ w ⟨rfl, h⟩; try simp only [Act.put, List.setIfInBounds_toArray, List.set_cons_zero, List.set_cons_succ]))
          refine wp_region_K 11 (fun w' => St _ _ w' _) (by kernel_rfl) h.drew ?_; replace h := h.drew
          refine wpAnyK_pure 17 (v := ?_) (i := 0) (fuel := 10) rfl rfl (by kernel_rfl) (by kernel_rfl) (by kernel_rfl) (by decide) (fun _ _ _ h => h) (Or.inl ⟨by rfl, fun w _ => ?_⟩) ?_; rotate_left; (go_simp; with_reducible rfl); simp only [Act.put, List.setIfInBounds_toArray, List.set_cons_zero, List.set_cons_succ]
          refine wpAnyK_pure 18 (v := ?_) (i := 1) (fuel := 9) rfl rfl (by kernel_rfl) (by kernel_rfl) (by kernel_rfl) (by decide) (fun _ _ _ h => h) (Or.inl ⟨by rfl, fun w _ => ?_⟩) ?_; rotate_left; (go_simp; with_reducible rfl); simp only [Act.put, List.setIfInBounds_toArray, List.set_cons_zero, List.set_cons_succ]
          refine wpAnyK_pure 19 (v := ?_) (i := 2) (fuel := 8) rfl rfl (by kernel_rfl) (by kernel_rfl) (by kernel_rfl) (by decide) (fun _ _ _ h => h) (Or.inl ⟨by rfl, fun w _ => ?_⟩) ?_; rotate_left; (go_simp; with_reducible rfl); simp only [Act.put, List.setIfInBounds_toArray, List.set_cons_zero, List.set_cons_succ]
          refine wpAnyK_load 20 (i := 3) (fuel := 7) rfl rfl (by kernel_rfl) (by kernel_rfl) (by kernel_rfl) (.inr (by decide)) (by decide) (fun _ _ _ h => h) rfl (fun w h => ex_loadv h _ _ rfl _ _ rfl) ?_; simp only [Act.put, List.setIfInBounds_toArray, List.set_cons_zero, List.set_cons_succ]
          refine wpAnyK_load 21 (i := 4) (fuel := 6) rfl rfl (by kernel_rfl) (by kernel_rfl) (by kernel_rfl) (.inr (by decide)) (by decide) (fun _ _ _ h => h) rfl (fun w h => ex_loadv h _ _ rfl _ _ rfl) ?_; simp only [Act.put, List.setIfInBounds_toArray, List.set_cons_zero, List.set_cons_succ]
          refine wpAnyK_load 22 (i := 5) (fuel := 5) rfl rfl (by kernel_rfl) (by kernel_rfl) (by kernel_rfl) (.inr (by decide)) (by decide) (fun _ _ _ h => h) rfl (fun w h => ex_look_eq idv natI h _ _ _ rfl ga rfl x rfl hmx2 (u := .int .i64 (q : Int)) rfl) ?_; simp only [Act.put, List.setIfInBounds_toArray, List.set_cons_zero, List.set_cons_succ]
          refine wpAnyK_pure 16 (v := ?_) (i := 6) (fuel := 4) rfl rfl (by kernel_rfl) (by kernel_rfl) (by kernel_rfl) (by decide) (fun _ _ _ h => h) (Or.inl ⟨by rfl, fun w _ => ?_⟩) ?_; rotate_left; (go_simp; with_reducible rfl); simp only [Act.put, List.setIfInBounds_toArray, List.set_cons_zero, List.set_cons_succ]
          refine wpAnyK_pure 23 (v := ?_) (i := 7) (fuel := 3) rfl rfl (by kernel_rfl) (by kernel_rfl) (by kernel_rfl) (by decide) (fun _ _ _ h => h) (Or.inl ⟨by rfl, fun w _ => ?_⟩) ?_; rotate_left; (go_simp; with_reducible rfl); simp only [Act.put, List.setIfInBounds_toArray, List.set_cons_zero, List.set_cons_succ]
          refine wpAnyK_pure 24 (v := ?_) (i := 8) (fuel := 2) rfl rfl (by kernel_rfl) (by kernel_rfl) (by kernel_rfl) (by decide) (fun _ _ _ h => h) (Or.inl ⟨by rfl, fun w _ => ?_⟩) ?_; rotate_left; (go_simp; with_reducible rfl); simp only [Act.put, List.setIfInBounds_toArray, List.set_cons_zero, List.set_cons_succ]
          refine wpAnyK_pure 7 (v := ?_) (i := 9) (fuel := 1) rfl rfl (by kernel_rfl) (by kernel_rfl) (by kernel_rfl) (by decide) (fun _ _ _ h => h) (Or.inl ⟨by rfl, fun w _ => ?_⟩) ?_; rotate_left; (go_simp; with_reducible rfl); simp only [Act.put, List.setIfInBounds_toArray, List.set_cons_zero, List.set_cons_succ]
          refine wpAnyK_pure 8 (v := ?_) (i := 10) (fuel := 0) rfl rfl (by kernel_rfl) (by kernel_rfl) (by kernel_rfl) (by decide) (fun _ _ _ h => h) (Or.inl ⟨by rfl, fun w _ => ?_⟩) ?_; rotate_left; (go_simp; with_reducible rfl); simp only [Act.put, List.setIfInBounds_toArray, List.set_cons_zero, List.set_cons_succ]
          refine wpAnyK_done (by kernel_rfl) ?_
          go_upto_region 5 with fail
          refine wp_region_K 10 (fun w' => St _ _ w' _) (by kernel_rfl) h.drew ?_; replace h := h.drew
          refine wpAnyK_pure 25 (v := ?_) (i := 0) (fuel := 9) rfl rfl (by kernel_rfl) (by kernel_rfl) (by kernel_rfl) (by decide) (fun _ _ _ h => h) (Or.inl ⟨by rfl, fun w _ => ?_⟩) ?_; rotate_left; (go_simp; with_reducible rfl); simp only [Act.put, List.setIfInBounds_toArray, List.set_cons_zero, List.set_cons_succ]
          refine wpAnyK_pure 26 (v := ?_) (i := 1) (fuel := 8) rfl rfl (by kernel_rfl) (by kernel_rfl) (by kernel_rfl) (by decide) (fun _ _ _ h => h) (Or.inl ⟨by rfl, fun w _ => ?_⟩) ?_; rotate_left; (go_simp; with_reducible rfl); simp only [Act.put, List.setIfInBounds_toArray, List.set_cons_zero, List.set_cons_succ]
          refine wpAnyK_pure 27 (v := ?_) (i := 2) (fuel := 7) rfl rfl (by kernel_rfl) (by kernel_rfl) (by kernel_rfl) (by decide) (fun _ _ _ h => h) (Or.inl ⟨by rfl, fun w _ => ?_⟩) ?_; rotate_left; (go_simp; with_reducible rfl); simp only [Act.put, List.setIfInBounds_toArray, List.set_cons_zero, List.set_cons_succ]
          refine wpAnyK_pure 28 (v := ?_) (i := 3) (fuel := 6) rfl rfl (by kernel_rfl) (by kernel_rfl) (by kernel_rfl) (by decide) (fun _ _ _ h => h) (Or.inl ⟨by rfl, fun w _ => ?_⟩) ?_; rotate_left; (go_simp; with_reducible rfl); simp only [Act.put, List.setIfInBounds_toArray, List.set_cons_zero, List.set_cons_succ]
          refine wpAnyK_pure 29 (v := ?_) (i := 4) (fuel := 5) rfl rfl (by kernel_rfl) (by kernel_rfl) (by kernel_rfl) (by decide) (fun _ _ _ h => h) (Or.inl ⟨by rfl, fun w _ => ?_⟩) ?_; rotate_left; (go_simp; with_reducible rfl); simp only [Act.put, List.setIfInBounds_toArray, List.set_cons_zero, List.set_cons_succ]
          refine wpAnyK_load 30 (i := 5) (fuel := 4) rfl rfl (by kernel_rfl) (by kernel_rfl) (by kernel_rfl) (.inr (by decide)) (by decide) (fun _ _ _ h => h) rfl (fun w h => ex_loadv h _ _ rfl _ _ rfl) ?_; simp only [Act.put, List.setIfInBounds_toArray, List.set_cons_zero, List.set_cons_succ]
          refine wpAnyK_load 31 (i := 6) (fuel := 3) rfl rfl (by kernel_rfl) (by kernel_rfl) (by kernel_rfl) (.inr (by decide)) (by decide) (fun _ _ _ h => h) rfl (fun w h => ex_loadv h _ _ rfl _ _ rfl) ?_; simp only [Act.put, List.setIfInBounds_toArray, List.set_cons_zero, List.set_cons_succ]
          refine wpAnyK_load 32 (i := 7) (fuel := 2) rfl rfl (by kernel_rfl) (by kernel_rfl) (by kernel_rfl) (.inr (by decide)) (by decide) (fun _ _ _ h => h) rfl (fun w h => ex_look1_eq idv boV h _ _ _ rfl gd rfl x rfl hdx (u := .bool true) rfl) ?_; simp only [Act.put, List.setIfInBounds_toArray, List.set_cons_zero, List.set_cons_succ]
          refine wpAnyK_pure 33 (v := ?_) (i := 8) (fuel := 1) rfl rfl (by kernel_rfl) (by kernel_rfl) (by kernel_rfl) (by decide) (fun _ _ _ h => h) (Or.inl ⟨by rfl, fun w _ => ?_⟩) ?_; rotate_left; (go_simp; with_reducible rfl); simp only [Act.put, List.setIfInBounds_toArray, List.set_cons_zero, List.set_cons_succ]
          refine wpAnyK_pure 34 (v := ?_) (i := 9) (fuel := 0) rfl rfl (by kernel_rfl) (by kernel_rfl) (by kernel_rfl) (by decide) (fun _ _ _ h => h) (Or.inl ⟨by rfl, fun w _ => ?_⟩) ?_; rotate_left; (go_simp; with_reducible rfl); simp only [Act.put, List.setIfInBounds_toArray, List.set_cons_zero, List.set_cons_succ]
          refine wpAnyK_done (by kernel_rfl) ?_
          go_wp2
          refine ⟨⟨k + 1, by push_cast; rfl, by omega, Hst, h.to⟩, ?_⟩
          simp only [intOf]
          omega
        | false =>
          have Hd : Hid (ol.all (okLink os out) = false) := Lib.hid (by
            rw [List.all_eq_false]
            refine ⟨x, Hxm.out, ?_⟩
            rw [okLink, hany, hf]
            simp)
          rw [hany, if_neg (by simp)] at hdx
          clear hf hmx hany
          go_upto_region 4 with (first
            | (refine wl_at 15 rfl ?_; refine wl_reads rfl (ex_load_at _ _ rfl b (off + k * 32) rfl (u8s x.1) (by rw [u8s_length, x.2]) (hcs (h.sl (some ⟨b, off, none⟩) ol.length oc))) ?_; try simp only [Act.put, List.setIfInBounds_toArray, List.set_cons_zero, List.set_cons_succ])
            | (refine wl_at 6 rfl ?_; refine wl_runs rfl (ex_alloc h 33 rfl) ?_; clear h; rintro _ w ⟨g6, rfl, h⟩; try simp only [Act.put, List.setIfInBounds_toArray, List.set_cons_zero, List.set_cons_succ])
            | (refine wl_none rfl ?_; refine wl_runs rfl (ex_store h _ _ _ rfl _ _ rfl (u8s x.1) rfl) ?_; clear h; rintro _ w ⟨rfl, h⟩; try simp only [Act.put, List.setIfInBounds_toArray, List.set_cons_zero, List.set_cons_succ]))
          refine wp_region_K 11 (fun w' => St _ _ w' _) (by kernel_rfl) h.drew ?_; replace h := h.drew
          refine wpAnyK_pure 17 (v := ?_) (i := 0) (fuel := 10) rfl rfl (by kernel_rfl) (by kernel_rfl) (by kernel_rfl) (by decide) (fun _ _ _ h => h) (Or.inl ⟨by rfl, fun w _ => ?_⟩) ?_; rotate_left; (go_simp; with_reducible rfl); simp only [Act.put, List.setIfInBounds_toArray, List.set_cons_zero, List.set_cons_succ]
          refine wpAnyK_pure 18 (v := ?_) (i := 1) (fuel := 9) rfl rfl (by kernel_rfl) (by kernel_rfl) (by kernel_rfl) (by decide) (fun _ _ _ h => h) (Or.inl ⟨by rfl, fun w _ => ?_⟩) ?_; rotate_left; (go_simp; with_reducible rfl); simp only [Act.put, List.setIfInBounds_toArray, List.set_cons_zero, List.set_cons_succ]
          refine wpAnyK_pure 19 (v := ?_) (i := 2) (fuel := 8) rfl rfl (by kernel_rfl) (by kernel_rfl) (by kernel_rfl) (by decide) (fun _ _ _ h => h) (Or.inl ⟨by rfl, fun w _ => ?_⟩) ?_; rotate_left; (go_simp; with_reducible rfl); simp only [Act.put, List.setIfInBounds_toArray, List.set_cons_zero, List.set_cons_succ]
          refine wpAnyK_load 20 (i := 3) (fuel := 7) rfl rfl (by kernel_rfl) (by kernel_rfl) (by kernel_rfl) (.inr (by decide)) (by decide) (fun _ _ _ h => h) rfl (fun w h => ex_loadv h _ _ rfl _ _ rfl) ?_; simp only [Act.put, List.setIfInBounds_toArray, List.set_cons_zero, List.set_cons_succ]
          refine wpAnyK_load 21 (i := 4) (fuel := 6) rfl rfl (by kernel_rfl) (by kernel_rfl) (by kernel_rfl) (.inr (by decide)) (by decide) (fun _ _ _ h => h) rfl (fun w h => ex_loadv h _ _ rfl _ _ rfl) ?_; simp only [Act.put, List.setIfInBounds_toArray, List.set_cons_zero, List.set_cons_succ]
          refine wpAnyK_load 22 (i := 5) (fuel := 5) rfl rfl (by kernel_rfl) (by kernel_rfl) (by kernel_rfl) (.inr (by decide)) (by decide) (fun _ _ _ h => h) rfl (fun w h => ex_look_eq idv natI h _ _ _ rfl ga rfl x rfl hmx2 (u := .int .i64 (q : Int)) rfl) ?_; simp only [Act.put, List.setIfInBounds_toArray, List.set_cons_zero, List.set_cons_succ]
          refine wpAnyK_pure 16 (v := ?_) (i := 6) (fuel := 4) rfl rfl (by kernel_rfl) (by kernel_rfl) (by kernel_rfl) (by decide) (fun _ _ _ h => h) (Or.inl ⟨by rfl, fun w _ => ?_⟩) ?_; rotate_left; (go_simp; with_reducible rfl); simp only [Act.put, List.setIfInBounds_toArray, List.set_cons_zero, List.set_cons_succ]
          refine wpAnyK_pure 23 (v := ?_) (i := 7) (fuel := 3) rfl rfl (by kernel_rfl) (by kernel_rfl) (by kernel_rfl) (by decide) (fun _ _ _ h => h) (Or.inl ⟨by rfl, fun w _ => ?_⟩) ?_; rotate_left; (go_simp; with_reducible rfl); simp only [Act.put, List.setIfInBounds_toArray, List.set_cons_zero, List.set_cons_succ]
          refine wpAnyK_pure 24 (v := ?_) (i := 8) (fuel := 2) rfl rfl (by kernel_rfl) (by kernel_rfl) (by kernel_rfl) (by decide) (fun _ _ _ h => h) (Or.inl ⟨by rfl, fun w _ => ?_⟩) ?_; rotate_left; (go_simp; with_reducible rfl); simp only [Act.put, List.setIfInBounds_toArray, List.set_cons_zero, List.set_cons_succ]
          refine wpAnyK_pure 7 (v := ?_) (i := 9) (fuel := 1) rfl rfl (by kernel_rfl) (by kernel_rfl) (by kernel_rfl) (by decide) (fun _ _ _ h => h) (Or.inl ⟨by rfl, fun w _ => ?_⟩) ?_; rotate_left; (go_simp; with_reducible rfl); simp only [Act.put, List.setIfInBounds_toArray, List.set_cons_zero, List.set_cons_succ]
          refine wpAnyK_pure 8 (v := ?_) (i := 10) (fuel := 0) rfl rfl (by kernel_rfl) (by kernel_rfl) (by kernel_rfl) (by decide) (fun _ _ _ h => h) (Or.inl ⟨by rfl, fun w _ => ?_⟩) ?_; rotate_left; (go_simp; with_reducible rfl); simp only [Act.put, List.setIfInBounds_toArray, List.set_cons_zero, List.set_cons_succ]
          refine wpAnyK_done (by kernel_rfl) ?_
          go_upto_region 5 with fail
          refine wp_region_K 10 (fun w' => St _ _ w' _) (by kernel_rfl) h.drew ?_; replace h := h.drew
          refine wpAnyK_pure 25 (v := ?_) (i := 0) (fuel := 9) rfl rfl (by kernel_rfl) (by kernel_rfl) (by kernel_rfl) (by decide) (fun _ _ _ h => h) (Or.inl ⟨by rfl, fun w _ => ?_⟩) ?_; rotate_left; (go_simp; with_reducible rfl); simp only [Act.put, List.setIfInBounds_toArray, List.set_cons_zero, List.set_cons_succ]
          refine wpAnyK_pure 26 (v := ?_) (i := 1) (fuel := 8) rfl rfl (by kernel_rfl) (by kernel_rfl) (by kernel_rfl) (by decide) (fun _ _ _ h => h) (Or.inl ⟨by rfl, fun w _ => ?_⟩) ?_; rotate_left; (go_simp; with_reducible rfl); simp only [Act.put, List.setIfInBounds_toArray, List.set_cons_zero, List.set_cons_succ]
          refine wpAnyK_pure 27 (v := ?_) (i := 2) (fuel := 7) rfl rfl (by kernel_rfl) (by kernel_rfl) (by kernel_rfl) (by decide) (fun _ _ _ h => h) (Or.inl ⟨by rfl, fun w _ => ?_⟩) ?_; rotate_left; (go_simp; with_reducible rfl); simp only [Act.put, List.setIfInBounds_toArray, List.set_cons_zero, List.set_cons_succ]
          refine wpAnyK_pure 28 (v := ?_) (i := 3) (fuel := 6) rfl rfl (by kernel_rfl) (by kernel_rfl) (by kernel_rfl) (by decide) (fun _ _ _ h => h) (Or.inl ⟨by rfl, fun w _ => ?_⟩) ?_; rotate_left; (go_simp; with_reducible rfl); simp only [Act.put, List.setIfInBounds_toArray, List.set_cons_zero, List.set_cons_succ]
          refine wpAnyK_pure 29 (v := ?_) (i := 4) (fuel := 5) rfl rfl (by kernel_rfl) (by kernel_rfl) (by kernel_rfl) (by decide) (fun _ _ _ h => h) (Or.inl ⟨by rfl, fun w _ => ?_⟩) ?_; rotate_left; (go_simp; with_reducible rfl); simp only [Act.put, List.setIfInBounds_toArray, List.set_cons_zero, List.set_cons_succ]
          refine wpAnyK_load 30 (i := 5) (fuel := 4) rfl rfl (by kernel_rfl) (by kernel_rfl) (by kernel_rfl) (.inr (by decide)) (by decide) (fun _ _ _ h => h) rfl (fun w h => ex_loadv h _ _ rfl _ _ rfl) ?_; simp only [Act.put, List.setIfInBounds_toArray, List.set_cons_zero, List.set_cons_succ]
          refine wpAnyK_load 31 (i := 6) (fuel := 3) rfl rfl (by kernel_rfl) (by kernel_rfl) (by kernel_rfl) (.inr (by decide)) (by decide) (fun _ _ _ h => h) rfl (fun w h => ex_loadv h _ _ rfl _ _ rfl) ?_; simp only [Act.put, List.setIfInBounds_toArray, List.set_cons_zero, List.set_cons_succ]
          refine wpAnyK_load 32 (i := 7) (fuel := 2) rfl rfl (by kernel_rfl) (by kernel_rfl) (by kernel_rfl) (.inr (by decide)) (by decide) (fun _ _ _ h => h) rfl (fun w h => ex_look1_none idv boV h _ _ _ rfl gd rfl x rfl hdx) ?_; simp only [Act.put, List.setIfInBounds_toArray, List.set_cons_zero, List.set_cons_succ]
          refine wpAnyK_pure 33 (v := ?_) (i := 8) (fuel := 1) rfl rfl (by kernel_rfl) (by kernel_rfl) (by kernel_rfl) (by decide) (fun _ _ _ h => h) (Or.inl ⟨by rfl, fun w _ => ?_⟩) ?_; rotate_left; (go_simp; with_reducible rfl); simp only [Act.put, List.setIfInBounds_toArray, List.set_cons_zero, List.set_cons_succ]
          refine wpAnyK_pure 34 (v := ?_) (i := 9) (fuel := 0) rfl rfl (by kernel_rfl) (by kernel_rfl) (by kernel_rfl) (by decide) (fun _ _ _ h => h) (Or.inl ⟨by rfl, fun w _ => ?_⟩) ?_; rotate_left; (go_simp; with_reducible rfl); simp only [Act.put, List.setIfInBounds_toArray, List.set_cons_zero, List.set_cons_succ]
          refine wpAnyK_done (by kernel_rfl) ?_
          go_wp2
          go_ret
          exact ⟨by rw [Hd.out]; rfl, h.to⟩
    · obtain rfl : k = ol.length := by omega
      have hkk : ¬ ((ol.length : Int) < (ol.length : Int)) := by omega
      have Hd : Hid (ol.all (okLink os out) = true) := Lib.hid (by have := Hall.out; rwa [List.take_length] at this)
      clear hkl
      go_wp2
      go_ret
      exact ⟨by rw [Hd.out]; rfl, h.to⟩
/-- What the placing has. -/
abbrev OrdL (gp ga gd n c : Nat) (A U : Option Addr) (mi : List (Id × Nat)) (dm : List (Id × Bool)) (out : List Nat) (F : List Ent) : List Ent :=
  eBlk gp 71 (plc A U n c ga gd) :: eOwn 4 1 U n n (usedV n out) :: eMap ga idv natI mi :: eMap gd idv boV dm :: F
set_option maxRecDepth 100000 in
set_option maxHeartbeats 2000000 in
theorem next_code {S : Nat → Prop} {w0 w : World} {F F1 : List Ent} {gp ga gd c : Nat} {A U : Option Addr} {mi : List (Id × Nat)} {dm : List (Id × Bool)} {ps : List ObAt} {out : List Nat} (h : St S w0 w (OrdL gp ga gd ps.length c A U mi dm out F)) [ka : Slot F (eObs obc A ps.length c ps) F1] [kh : HasObs obc F A ps.length c ps]
    (Hmi : Hid (∀ x, mget mi x = fstIx (idsOf (obsM ps)) x)) (Hdm : Hid (DoneIs (obsM ps) dm out)) (hl : ps.length ≤ 1000000) (Hls : Hid (∀ p ∈ ps, p.links.length ≤ 1000000)) :
    Calls Try.prog 40 #[.pointer (some ⟨gp, 0, none⟩)] w fun e w' => e = .returned (.int .i64 (findV (nextM (obsM ps) out))) ∧ St S w0 w' (OrdL gp ga gd ps.length c A U mi dm out F) := by
  have hN : (obsM ps).length = ps.length := by simp
  have HN := Lib.hid hN
  clear hN
  go_enter Try.func40, Try.ntmps40
  go_wp2_with (first
    | (refine wl_at 8 rfl ?_; refine wl_reads rfl (ex_loadv h _ _ rfl _ _ rfl) ?_; try simp only [Act.put, List.setIfInBounds_toArray, List.set_cons_zero, List.set_cons_succ]))
  go_loopw [10] (fun iv wr => ∃ k : Nat, iv = .int .i64 (k : Int) ∧ k ≤ ps.length ∧ Hid (∀ j, j < k → (!out.contains j && freeM (obsM ps) out j) = false) ∧ St S w0 wr (OrdL gp ga gd ps.length c A U mi dm out F)) (fun iv _ => ps.length - (intOf iv).toNat)
  case atStart => exact ⟨0, rfl, Nat.zero_le _, Lib.hid (fun j hj => by omega), h⟩
  case round =>
    clear h
    obtain ⟨k, rfl, hk, Hno, h⟩ := hrel
    by_cases hkl : k < ps.length
    · have f2 : (k : Int) < (ps.length : Int) := by omega
      have t1 : ((k : Int)).toNat = k := by omega
      obtain ⟨p, hp⟩ : ∃ p, ps[k] = p := ⟨_, rfl⟩
      have hpm : p ∈ ps := by rw [← hp]; exact List.getElem_mem _
      have hpl := Hls.out p hpm
      replace h := h.oneLinks obc A ps.length c hpm
      have hpn := (h.obsAt obc A ps.length c).2.n_eq hpm
      obtain ⟨b, off, rfl, _⟩ := (h.obsAt obc A ps.length c).1.pos (by omega)
      have hcs : ∀ {w}, Sl w (some ⟨b, off, none⟩) ps.length c 34 (ps.flatMap obc) → Cells w b (off + k * 34) (obc p) := fun hs => by rw [← hp]; exact hs.elemAt obc_length hkl (by omega)
      have hU : ∃ bU oU, U = some ⟨bU, oU, none⟩ := by
        obtain ⟨bU, oU, e, _⟩ := (h.sl U ps.length ps.length).pos (by omega)
        exact ⟨bU, oU, e⟩
      obtain ⟨bU, oU, rfl⟩ := hU
      obtain ⟨Bu, hBu⟩ : ∃ Bu, out.contains k = Bu := ⟨_, rfl⟩
      have hcU : ∀ {w}, Sl w (some ⟨bU, oU, none⟩) ps.length ps.length 1 (usedV ps.length out) → w.cell? ⟨bU, oU + k, none⟩ = some (.bool Bu) := fun hs => hs.cellAt (by rw [usedV_get hkl, hBu])
      have hfr : freeM (obsM ps) out k = p.links.all (okLink (obsM ps) out) := by rw [freeM_eq]; simp [linksAt, hkl, hp, obOf]
      obtain ⟨Bf, hBf⟩ : ∃ Bf, p.links.all (okLink (obsM ps) out) = Bf := ⟨_, rfl⟩
      rw [hBf] at hfr
      have HBf := Lib.hid hBf
      have Hstep : Hid ((!out.contains k && freeM (obsM ps) out k) = (!Bu && Bf)) := Lib.hid (by rw [hBu, hfr])
      clear hp hfr hBf hBu
      obtain ⟨oA, on, oc, oi, ol, ox⟩ := p
      simp only at hpl hpn HBf
      obtain rfl : on = ol.length := hpn
      have hro : Row (u8s oi.1) 32 := Row.u32 oi
      have go : ∀ (B : Bool), (!Bu && Bf) = B → (B = false → Hid (∀ j, j < k + 1 → (!out.contains j && freeM (obsM ps) out j) = false)) ∧ (B = true → Hid (nextM (obsM ps) out = some k)) := fun B hB => ⟨fun e => Lib.hid (fun j hj => by
        rcases Nat.lt_succ_iff_lt_or_eq.1 hj with h3 | rfl
        · exact Hno.out j h3
        · rw [Hstep.out, hB, e]), fun e => Lib.hid (next_at (by rw [HN.out]; exact hkl) (by rw [Hstep.out, hB, e]) Hno.out)⟩
      have Hgo := Lib.hid go
      clear go
      cases Bu with
      | true =>
        have Hno2 := (Hgo.out false (by simp)).1 rfl
        clear Hgo
        go_wp2_with (first
          | (refine wl_at 14 rfl ?_; refine wl_reads rfl (ex_load_at _ _ rfl b (off + k * 34) rfl (c_api_Object (u8s oi.1) (.slice oA ol.length oc) (.int .i64 ox)) (obc_length ⟨oA, ol.length, oc, oi, ol, ox⟩) (hcs (h.obsAt obc (some ⟨b, off, none⟩) ps.length c).1)) ?_; try simp only [Act.put, List.setIfInBounds_toArray, List.set_cons_zero, List.set_cons_succ])
          | (refine wl_at 4 rfl ?_; refine wl_runs rfl (ex_alloc h 44 rfl) ?_; clear h; rintro _ w ⟨g4, rfl, h⟩; try simp only [Act.put, List.setIfInBounds_toArray, List.set_cons_zero, List.set_cons_succ])
          | (refine wl_none rfl ?_; refine wl_runs rfl (ex_store h _ _ _ rfl _ _ rfl (c_api_Object (u8s oi.1) (.slice oA ol.length oc) (.int .i64 ox)) rfl) ?_; clear h; rintro _ w ⟨rfl, h⟩; try simp only [Act.put, List.setIfInBounds_toArray, List.set_cons_zero, List.set_cons_succ])
          | (refine wl_at 18 rfl ?_; refine wl_reads rfl (ex_loadv h _ _ rfl _ _ rfl) ?_; try simp only [Act.put, List.setIfInBounds_toArray, List.set_cons_zero, List.set_cons_succ])
          | (refine wl_at 21 rfl ?_; refine wl_reads rfl (ex_load1_at _ _ rfl bU (oU + k) rfl (.bool true) (hcU (h.sl (some ⟨bU, oU, none⟩) ps.length ps.length))) ?_; try simp only [Act.put, List.setIfInBounds_toArray, List.set_cons_zero, List.set_cons_succ]))
        refine ⟨⟨k + 1, by push_cast; rfl, by omega, Hno2, h.to⟩, ?_⟩
        simp only [intOf]
        omega
      | false =>
        cases Bf with
        | false =>
          have Hno2 := (Hgo.out false (by simp)).1 rfl
          clear Hgo
          go_wp2_with (first
            | (refine wl_at 14 rfl ?_; refine wl_reads rfl (ex_load_at _ _ rfl b (off + k * 34) rfl (c_api_Object (u8s oi.1) (.slice oA ol.length oc) (.int .i64 ox)) (obc_length ⟨oA, ol.length, oc, oi, ol, ox⟩) (hcs (h.obsAt obc (some ⟨b, off, none⟩) ps.length c).1)) ?_; try simp only [Act.put, List.setIfInBounds_toArray, List.set_cons_zero, List.set_cons_succ])
            | (refine wl_at 4 rfl ?_; refine wl_runs rfl (ex_alloc h 44 rfl) ?_; clear h; rintro _ w ⟨g4, rfl, h⟩; try simp only [Act.put, List.setIfInBounds_toArray, List.set_cons_zero, List.set_cons_succ])
            | (refine wl_none rfl ?_; refine wl_runs rfl (ex_store h _ _ _ rfl _ _ rfl (c_api_Object (u8s oi.1) (.slice oA ol.length oc) (.int .i64 ox)) rfl) ?_; clear h; rintro _ w ⟨rfl, h⟩; try simp only [Act.put, List.setIfInBounds_toArray, List.set_cons_zero, List.set_cons_succ])
            | (refine wl_at 18 rfl ?_; refine wl_reads rfl (ex_loadv h _ _ rfl _ _ rfl) ?_; try simp only [Act.put, List.setIfInBounds_toArray, List.set_cons_zero, List.set_cons_succ])
            | (refine wl_at 21 rfl ?_; refine wl_reads rfl (ex_load1_at _ _ rfl bU (oU + k) rfl (.bool false) (hcU (h.sl (some ⟨bU, oU, none⟩) ps.length ps.length))) ?_; try simp only [Act.put, List.setIfInBounds_toArray, List.set_cons_zero, List.set_cons_succ])
            | (refine wl_at 25 rfl ?_; refine wl_reads rfl (ex_loadv h _ _ rfl _ _ rfl) ?_; try simp only [Act.put, List.setIfInBounds_toArray, List.set_cons_zero, List.set_cons_succ])
            | (go_at_call 63; refine (free_code (gp := gp) (ga := ga) (gd := gd) (os := obsM ps) (out := out) h Hmi Hdm hpl).mono ?_; rw [HBf.out]; clear h; rintro r w ⟨rfl, h⟩))
          refine ⟨⟨k + 1, by push_cast; rfl, by omega, Hno2, h.to⟩, ?_⟩
          simp only [intOf]
          omega
        | true =>
          have Hyes := (Hgo.out true (by simp)).2 rfl
          clear Hgo
          go_wp2_with (first
            | (refine wl_at 14 rfl ?_; refine wl_reads rfl (ex_load_at _ _ rfl b (off + k * 34) rfl (c_api_Object (u8s oi.1) (.slice oA ol.length oc) (.int .i64 ox)) (obc_length ⟨oA, ol.length, oc, oi, ol, ox⟩) (hcs (h.obsAt obc (some ⟨b, off, none⟩) ps.length c).1)) ?_; try simp only [Act.put, List.setIfInBounds_toArray, List.set_cons_zero, List.set_cons_succ])
            | (refine wl_at 4 rfl ?_; refine wl_runs rfl (ex_alloc h 44 rfl) ?_; clear h; rintro _ w ⟨g4, rfl, h⟩; try simp only [Act.put, List.setIfInBounds_toArray, List.set_cons_zero, List.set_cons_succ])
            | (refine wl_none rfl ?_; refine wl_runs rfl (ex_store h _ _ _ rfl _ _ rfl (c_api_Object (u8s oi.1) (.slice oA ol.length oc) (.int .i64 ox)) rfl) ?_; clear h; rintro _ w ⟨rfl, h⟩; try simp only [Act.put, List.setIfInBounds_toArray, List.set_cons_zero, List.set_cons_succ])
            | (refine wl_at 18 rfl ?_; refine wl_reads rfl (ex_loadv h _ _ rfl _ _ rfl) ?_; try simp only [Act.put, List.setIfInBounds_toArray, List.set_cons_zero, List.set_cons_succ])
            | (refine wl_at 21 rfl ?_; refine wl_reads rfl (ex_load1_at _ _ rfl bU (oU + k) rfl (.bool false) (hcU (h.sl (some ⟨bU, oU, none⟩) ps.length ps.length))) ?_; try simp only [Act.put, List.setIfInBounds_toArray, List.set_cons_zero, List.set_cons_succ])
            | (refine wl_at 25 rfl ?_; refine wl_reads rfl (ex_loadv h _ _ rfl _ _ rfl) ?_; try simp only [Act.put, List.setIfInBounds_toArray, List.set_cons_zero, List.set_cons_succ])
            | (go_at_call 63; refine (free_code (gp := gp) (ga := ga) (gd := gd) (os := obsM ps) (out := out) h Hmi Hdm hpl).mono ?_; rw [HBf.out]; clear h; rintro r w ⟨rfl, h⟩))
          go_ret
          exact ⟨by rw [Hyes.out]; rfl, h.to⟩
    · obtain rfl : k = ps.length := by omega
      have hkk : ¬ ((ps.length : Int) < (ps.length : Int)) := by omega
      have Hd : Hid (nextM (obsM ps) out = none) := Lib.hid (next_none (fun j hj => Hno.out j (by rw [← HN.out]; exact hj)))
      clear hkl
      go_wp2
      go_ret
      exact ⟨by rw [Hd.out]; rfl, h⟩
end Go.Proofs.Ytionnlckjjojnaa
