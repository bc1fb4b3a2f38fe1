/- The reference's search for an object, for an id. -/
import Derived.Test.YtionnlckjjojnaaCMarkIx
import Derived.Test.YtionnlckjjojnaaCB1
namespace Go.Proofs.Ytionnlckjjojnaa
open Go.RowKit Go.Maps
set_option linter.unusedVariables false
set_option linter.unusedSimpArgs false

def findV : Option Nat → Int
  | some k => (k : Int)
  | none => -1
theorem id_beq {x y : Id} (B : Bool) (h : (x.1 == y.1) = B) : B = true ↔ x = y := by
  subst h
  simp only [beq_iff_eq]
  exact ⟨fun e => Subtype.ext e, fun e => by rw [e]⟩
set_option maxRecDepth 100000 in
set_option maxHeartbeats 1000000 in
theorem has_ref {S : Nat → Prop} {w0 w : World} {L : List Ent} {A : Option Addr} {n c : Nat} {l : List Id} {x : Id} (h : St S w0 w L) [ka : HasSl L A n c 32 (l.flatMap idc)] (hl : l.length ≤ 1000000000) :
    Calls Try.prog 34 #[.slice A n c, .agg (u8s x.1).toArray] w fun e w' => e = .returned (.bool (decide (x ∈ l))) ∧ St S w0 w' L := by
  have hn := (h.sl A n c).n_flat idc_length (by omega)
  subst hn
  have hrx : Row (u8s x.1) 32 := Row.u32 x
  go_enter Try.func34, Try.ntmps34
  go_wp2_with (first
    | (refine wl_runs rfl (ex_box h 33 _ rfl (u8s x.1) rfl) ?_; clear h; rintro _ w ⟨g3, rfl, h⟩))
  go_loopw [9] (fun iv wr => ∃ k : Nat, iv = .int .i64 (k : Int) ∧ k ≤ l.length ∧ Hid (x ∉ l.take k) ∧ St S w0 wr (eBlk g3 33 (u8s x.1) :: L)) (fun iv _ => l.length - (intOf iv).toNat)
  case atStart => exact ⟨0, rfl, Nat.zero_le _, Lib.hid (by simp), h⟩
  case round =>
    clear h
    obtain ⟨k, rfl, hk, Hno, h⟩ := hrel
    by_cases hkl : k < l.length
    · have f2 : (k : Int) < (l.length : Int) := by omega
      have t1 : ((k : Int)).toNat = k := by omega
      obtain ⟨y, hy⟩ : ∃ y, l[k] = y := ⟨_, rfl⟩
      have hry : Row (u8s y.1) 32 := Row.u32 y
      obtain ⟨b, off, rfl, _⟩ := (h.sl A l.length c).pos (by omega)
      have hcs : ∀ {w}, Sl w (some ⟨b, off, none⟩) l.length c 32 (l.flatMap idc) → Cells w b (off + k * 32) (u8s y.1) := fun hs => by rw [← hy]; exact hs.elemAt idc_length hkl (by omega)
      obtain ⟨B, hB⟩ : ∃ B, (y.1 == x.1) = B := ⟨_, rfl⟩
      have hBi := id_beq B hB
      cases B with
      | true =>
        have Hd : Hid (decide (x ∈ l) = true) := Lib.hid (decide_eq_true (by rw [← hBi.1 rfl, ← hy]; exact List.getElem_mem _))
        clear hBi hy
        go_wp2_with (first
          | (refine wl_at 12 rfl ?_; refine wl_reads rfl (ex_load_at _ _ rfl b (off + k * 32) rfl (u8s y.1) (by rw [u8s_length, y.2]) (hcs (h.sl (some ⟨b, off, none⟩) l.length c))) ?_)
          | (refine wl_runs rfl (ex_alloc h 33 rfl) ?_; clear h; rintro _ w ⟨g6, rfl, h⟩)
          | (refine wl_runs rfl (ex_store h _ _ _ rfl _ _ rfl (u8s y.1) rfl) ?_; clear h; rintro _ w ⟨rfl, h⟩; try dsimp only [Act.put])
          | (refine wl_at 13 rfl ?_; refine wl_reads rfl (ex_loadv h _ _ rfl _ _ rfl) ?_)
          | (refine wl_at 14 rfl ?_; refine wl_reads rfl (ex_loadv h _ _ rfl _ _ rfl) ?_)
          | (refine wl_at 15 rfl ?_; refine wl_reads rfl (ex_eq _ _ _ _ rfl y.1 x.1 rfl rfl y.2 x.2 true hB) ?_))
        go_ret
        exact ⟨by rw [Hd.out]; rfl, h.to⟩
      | false =>
        have Hno2 : Hid (x ∉ l.take (k + 1)) := Lib.hid (by
          rw [List.take_succ_eq_append_getElem hkl, List.mem_append, hy, List.mem_singleton]
          rintro (h1 | h1)
          · exact Hno.out h1
          · have := hBi.2 h1.symm; cases this)
        clear hBi hy
        go_wp2_with (first
          | (refine wl_at 12 rfl ?_; refine wl_reads rfl (ex_load_at _ _ rfl b (off + k * 32) rfl (u8s y.1) (by rw [u8s_length, y.2]) (hcs (h.sl (some ⟨b, off, none⟩) l.length c))) ?_)
          | (refine wl_runs rfl (ex_alloc h 33 rfl) ?_; clear h; rintro _ w ⟨g6, rfl, h⟩)
          | (refine wl_runs rfl (ex_store h _ _ _ rfl _ _ rfl (u8s y.1) rfl) ?_; clear h; rintro _ w ⟨rfl, h⟩; try dsimp only [Act.put])
          | (refine wl_at 13 rfl ?_; refine wl_reads rfl (ex_loadv h _ _ rfl _ _ rfl) ?_)
          | (refine wl_at 14 rfl ?_; refine wl_reads rfl (ex_loadv h _ _ rfl _ _ rfl) ?_)
          | (refine wl_at 15 rfl ?_; refine wl_reads rfl (ex_eq _ _ _ _ rfl y.1 x.1 rfl rfl y.2 x.2 false hB) ?_))
        refine ⟨⟨k + 1, by push_cast; rfl, by omega, Hno2, h.to⟩, ?_⟩
        simp only [intOf]
        omega
    · obtain rfl : k = l.length := by omega
      have hkk : ¬ ((l.length : Int) < (l.length : Int)) := by omega
      have Hd : Hid (decide (x ∈ l) = false) := Lib.hid (decide_eq_false (by have := Hno.out; rwa [List.take_length] at this))
      clear hkl
      go_wp2
      go_ret
      exact ⟨by rw [Hd.out]; rfl, h.to⟩
set_option maxRecDepth 100000 in
set_option maxHeartbeats 1000000 in
theorem find_ref {S : Nat → Prop} {w0 w : World} {L : List Ent} {A : Option Addr} {c : Nat} {ps : List ObAt} {x : Id} (h : St S w0 w L) [ka : HasObs obc L A ps.length c ps] (hl : ps.length ≤ 1000000) :
    Calls Try.prog 33 #[.slice A ps.length c, .agg (u8s x.1).toArray] w fun e w' => e = .returned (.int .i64 (findV (fstIx (ps.map (·.id)) x))) ∧ St S w0 w' L := by
  have hrx : Row (u8s x.1) 32 := Row.u32 x
  go_enter Try.func33, Try.ntmps33
  go_wp2_with (first
    | (refine wl_runs rfl (ex_box h 33 _ rfl (u8s x.1) rfl) ?_; clear h; rintro _ w ⟨g3, rfl, h⟩))
  go_loopw [8] (fun iv wr => ∃ k : Nat, iv = .int .i64 (k : Int) ∧ k ≤ ps.length ∧ Hid (∀ j (hj : j < ps.length), j < k → ps[j].id ≠ x) ∧ St S w0 wr (eBlk g3 33 (u8s x.1) :: L)) (fun iv _ => ps.length - (intOf iv).toNat)
  case atStart => exact ⟨0, rfl, Nat.zero_le _, Lib.hid (fun j hj h => by omega), h⟩
  case round =>
    clear h
    obtain ⟨k, rfl, hk, Hno, h⟩ := hrel
    by_cases hkl : k < ps.length
    · have f2 : (k : Int) < (ps.length : Int) := by omega
      have t1 : ((k : Int)).toNat = k := by omega
      obtain ⟨p, hp⟩ : ∃ p, ps[k] = p := ⟨_, rfl⟩
      obtain ⟨b, off, rfl, _⟩ := (h.obsAt obc A ps.length c).1.pos (by omega)
      have hcs : ∀ w, Sl w (some ⟨b, off, none⟩) ps.length c 34 (ps.flatMap obc) → Cells w b (off + k * 34) (u8s p.id.1) := fun w hs => cells_id (by rw [← hp]; exact hs.elemAt obc_length (by omega) (by omega))
      have Hcs := Lib.hid hcs
      obtain ⟨y, hy⟩ : ∃ y, p.id = y := ⟨_, rfl⟩
      rw [hy] at hcs Hcs
      have hry : Row (u8s y.1) 32 := Row.u32 y
      obtain ⟨B, hB⟩ : ∃ B, (y.1 == x.1) = B := ⟨_, rfl⟩
      have hBi := id_beq B hB
      have Hyl := Lib.hid y.2
      clear hcs
      cases B with
      | true =>
        have Hd : Hid (fstIx (ps.map (·.id)) x = some k) := Lib.hid (fstIx_at (by simpa using hkl) (by rw [List.getElem_map, hp, hy]; exact hBi.1 rfl) (fun j hj => by rw [List.getElem_map]; exact Hno.out j (by omega) hj))
        clear hBi hp
        go_upto_region 4 with fail
        refine wp_region_K 7 (fun w' => St _ _ w' _) (by kernel_rfl) h.drew ?_; replace h := h.drew
        refine wpAnyK_pure 11 (v := ?_) (i := 0) (fuel := 6) rfl rfl (by kernel_rfl) (by kernel_rfl) (by kernel_rfl) (by decide) (fun _ _ _ h => h) (Or.inl ⟨by rfl, fun w _ => ?_⟩) ?_; rotate_left; (go_simp; with_reducible rfl); simp only [Act.put, List.setIfInBounds_toArray, List.set_cons_zero, List.set_cons_succ]
        refine wpAnyK_pure 12 (v := ?_) (i := 1) (fuel := 5) rfl rfl (by kernel_rfl) (by kernel_rfl) (by kernel_rfl) (by decide) (fun _ _ _ h => h) (Or.inl ⟨by rfl, fun w _ => ?_⟩) ?_; rotate_left; (go_simp; with_reducible rfl); simp only [Act.put, List.setIfInBounds_toArray, List.set_cons_zero, List.set_cons_succ]
        refine wpAnyK_pure 13 (v := ?_) (i := 2) (fuel := 4) rfl rfl (by kernel_rfl) (by kernel_rfl) (by kernel_rfl) (by decide) (fun _ _ _ h => h) (Or.inl ⟨by rfl, fun w _ => ?_⟩) ?_; rotate_left; (go_simp; with_reducible rfl); simp only [Act.put, List.setIfInBounds_toArray, List.set_cons_zero, List.set_cons_succ]
        refine wpAnyK_pure 14 (v := ?_) (i := 3) (fuel := 3) rfl rfl (by kernel_rfl) (by kernel_rfl) (by kernel_rfl) (by decide) (fun _ _ _ h => h) (Or.inl ⟨by rfl, fun w _ => ?_⟩) ?_; rotate_left; (go_simp; with_reducible rfl); simp only [Act.put, List.setIfInBounds_toArray, List.set_cons_zero, List.set_cons_succ]
        refine wpAnyK_load 15 (i := 4) (fuel := 2) rfl rfl (by kernel_rfl) (by kernel_rfl) (by kernel_rfl) (.inr (by decide)) (by decide) (fun _ _ _ h => h) rfl (fun w h => ex_load_at _ _ rfl b (off + k * 34) rfl (u8s y.1) (by rw [u8s_length, Hyl.out]) (Hcs.out _ (h.obsAt obc (some ⟨b, off, none⟩) ps.length c).1)) ?_; simp only [Act.put, List.setIfInBounds_toArray, List.set_cons_zero, List.set_cons_succ]
        refine wpAnyK_load 16 (i := 5) (fuel := 1) rfl rfl (by kernel_rfl) (by kernel_rfl) (by kernel_rfl) (.inr (by decide)) (by decide) (fun _ _ _ h => h) rfl (fun w h => ex_loadv h _ _ rfl _ _ rfl) ?_; simp only [Act.put, List.setIfInBounds_toArray, List.set_cons_zero, List.set_cons_succ]
        refine wpAnyK_load 17 (i := 6) (fuel := 0) rfl rfl (by kernel_rfl) (by kernel_rfl) (by kernel_rfl) (.inr (by decide)) (by decide) (fun _ _ _ h => h) rfl (fun w h => ex_eq _ _ _ _ rfl y.1 x.1 rfl rfl y.2 x.2 true hB) ?_; simp only [Act.put, List.setIfInBounds_toArray, List.set_cons_zero, List.set_cons_succ]
        refine wpAnyK_done (by kernel_rfl) ?_
        go_wp2
        go_ret
        exact ⟨by rw [Hd.out]; rfl, h.to⟩
      | false =>
        have Hno2 : Hid (∀ j (hj : j < ps.length), j < k + 1 → ps[j].id ≠ x) := Lib.hid (fun j hj h2 => by
          rcases Nat.lt_succ_iff_lt_or_eq.1 h2 with h3 | rfl
          · exact Hno.out j hj h3
          · rw [hp, hy]; exact fun e => by have := hBi.2 e; cases this)
        clear hBi hp
        go_upto_region 4 with fail
        refine wp_region_K 7 (fun w' => St _ _ w' _) (by kernel_rfl) h.drew ?_; replace h := h.drew
        refine wpAnyK_pure 11 (v := ?_) (i := 0) (fuel := 6) rfl rfl (by kernel_rfl) (by kernel_rfl) (by kernel_rfl) (by decide) (fun _ _ _ h => h) (Or.inl ⟨by rfl, fun w _ => ?_⟩) ?_; rotate_left; (go_simp; with_reducible rfl); simp only [Act.put, List.setIfInBounds_toArray, List.set_cons_zero, List.set_cons_succ]
        refine wpAnyK_pure 12 (v := ?_) (i := 1) (fuel := 5) rfl rfl (by kernel_rfl) (by kernel_rfl) (by kernel_rfl) (by decide) (fun _ _ _ h => h) (Or.inl ⟨by rfl, fun w _ => ?_⟩) ?_; rotate_left; (go_simp; with_reducible rfl); simp only [Act.put, List.setIfInBounds_toArray, List.set_cons_zero, List.set_cons_succ]
        refine wpAnyK_pure 13 (v := ?_) (i := 2) (fuel := 4) rfl rfl (by kernel_rfl) (by kernel_rfl) (by kernel_rfl) (by decide) (fun _ _ _ h => h) (Or.inl ⟨by rfl, fun w _ => ?_⟩) ?_; rotate_left; (go_simp; with_reducible rfl); simp only [Act.put, List.setIfInBounds_toArray, List.set_cons_zero, List.set_cons_succ]
        refine wpAnyK_pure 14 (v := ?_) (i := 3) (fuel := 3) rfl rfl (by kernel_rfl) (by kernel_rfl) (by kernel_rfl) (by decide) (fun _ _ _ h => h) (Or.inl ⟨by rfl, fun w _ => ?_⟩) ?_; rotate_left; (go_simp; with_reducible rfl); simp only [Act.put, List.setIfInBounds_toArray, List.set_cons_zero, List.set_cons_succ]
        refine wpAnyK_load 15 (i := 4) (fuel := 2) rfl rfl (by kernel_rfl) (by kernel_rfl) (by kernel_rfl) (.inr (by decide)) (by decide) (fun _ _ _ h => h) rfl (fun w h => ex_load_at _ _ rfl b (off + k * 34) rfl (u8s y.1) (by rw [u8s_length, Hyl.out]) (Hcs.out _ (h.obsAt obc (some ⟨b, off, none⟩) ps.length c).1)) ?_; simp only [Act.put, List.setIfInBounds_toArray, List.set_cons_zero, List.set_cons_succ]
        refine wpAnyK_load 16 (i := 5) (fuel := 1) rfl rfl (by kernel_rfl) (by kernel_rfl) (by kernel_rfl) (.inr (by decide)) (by decide) (fun _ _ _ h => h) rfl (fun w h => ex_loadv h _ _ rfl _ _ rfl) ?_; simp only [Act.put, List.setIfInBounds_toArray, List.set_cons_zero, List.set_cons_succ]
        refine wpAnyK_load 17 (i := 6) (fuel := 0) rfl rfl (by kernel_rfl) (by kernel_rfl) (by kernel_rfl) (.inr (by decide)) (by decide) (fun _ _ _ h => h) rfl (fun w h => ex_eq _ _ _ _ rfl y.1 x.1 rfl rfl y.2 x.2 false hB) ?_; simp only [Act.put, List.setIfInBounds_toArray, List.set_cons_zero, List.set_cons_succ]
        refine wpAnyK_done (by kernel_rfl) ?_
        go_wp2
        refine ⟨⟨k + 1, by push_cast; rfl, by omega, Hno2, h.to⟩, ?_⟩
        simp only [intOf]
        omega
    · obtain rfl : k = ps.length := by omega
      have hkk : ¬ ((ps.length : Int) < (ps.length : Int)) := by omega
      have Hd : Hid (fstIx (ps.map (·.id)) x = none) := Lib.hid (fstIx_none.2 (fun hm => by
        obtain ⟨j, hj, e⟩ := List.getElem_of_mem hm
        rw [List.getElem_map] at e
        exact Hno.out j (by simpa using hj) (by simpa using hj) e))
      clear hkl
      go_wp2
      go_ret
      exact ⟨by rw [Hd.out]; rfl, h.to⟩
end Go.Proofs.Ytionnlckjjojnaa
