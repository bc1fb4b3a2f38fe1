/- Entries held against each other. -/
import Derived.Test.YtnokgejmlpmgfaaCB2
import Derived.Test.YtnokgejmlpmgfaaCOpenDir
import Derived.Test.YtnokgejmlpmgfaaCB1
namespace Go.Proofs.Ytnokgejmlpmgfaa
open Go.RowKit Go.Maps
set_option linter.unusedVariables false
set_option linter.unusedSimpArgs false

theorem laidOutD : laidOutB Try.prog = true := by kernel_rfl
theorem u8s_idD (x : Id) : (u8s x.1).length = 32 := by rw [u8s_length, x.2]
theorem cell_partD {xs : List Value} {i : Nat} {v : Value} (h : Cell xs i v) : (xs.drop i).take 1 = [v] := by
  obtain ⟨hi, hv⟩ := List.getElem?_eq_some_iff.1 h.eq
  rw [List.drop_eq_getElem_cons hi, hv]
  rfl
abbrev EnS := { e : En // EnOk e }
def envK (e : EnS) : Value := .agg (enK e.1).toArray
theorem enK_eq (e : En) : enK e = u8s e.blind.1 ++ ([.string (str e.name), .int .i64 e.kind] ++ (u8s e.id.1 ++ (u8s e.key.1 ++ [.int .u32 e.realm, .int .u32 e.epoch]))) := by
  simp [c_api_Entry]
theorem enK_inj {a b : En} (h : enK a = enK b) : a = b := by
  rw [enK_eq, enK_eq] at h
  obtain ⟨h1, h2⟩ := List.append_inj h (by simp [u8s_idD])
  obtain ⟨h3, h4⟩ := List.append_inj h2 (by simp)
  obtain ⟨h5, h6⟩ := List.append_inj h4 (by simp [u8s_idD])
  obtain ⟨h7, h8⟩ := List.append_inj h6 (by simp [u8s_idD])
  simp only [List.cons.injEq, Value.int.injEq, Value.string.injEq, and_true, true_and] at h3 h8
  obtain ⟨a1, a2, a3, a4, a5, a6, a7⟩ := a
  obtain ⟨b1, b2, b3, b4, b5, b6, b7⟩ := b
  simp only at h1 h3 h5 h7 h8
  obtain rfl : a1 = b1 := Subtype.ext (u8s_inj h1)
  obtain rfl : a2 = b2 := str_inj h3.1
  obtain rfl : a3 = b3 := h3.2
  obtain rfl : a4 = b4 := Subtype.ext (u8s_inj h5)
  obtain rfl : a5 = b5 := Subtype.ext (u8s_inj h7)
  obtain rfl : a6 = b6 := h8.1
  obtain rfl : a7 = b7 := h8.2
  rfl
instance mk_entry : MapKey Try.prog 87 envK := by
  have hs : (Try.prog).types.size = ((Try.prog).types.size - 2) + 2 := by kernel_rfl
  refine mapkey_rec (m := 6) (Try.underlying87) (by kernel_rfl) laidOutD (by omega) (of_decide_eq_true (by kernel_rfl)) (by kernel_rfl) (by kernel_rfl) hs (fun e => enK e.1) (fun _ => rfl) (fun a => ?_) (fun a f hf => ?_) (fun a b h => Subtype.ext (enK_inj h))
  · rw [show (Try.prog).cellsOf 87 = 100 from by kernel_rfl]
    exact enK_length _
  · obtain ⟨⟨blind, name, kind, id, key, realm, epoch⟩, o1, o2, o3, o4, o5, o6, o7⟩ := a
    simp only at o1 o2 o3 o4 o5 o6 o7
    have r1 : Row (u8s blind.1) 32 := Row.u32 blind
    have r2 : Row (u8s id.1) 32 := Row.u32 id
    have r3 : Row (u8s key.1) 32 := Row.u32 key
    simp only [List.mem_cons, List.not_mem_nil, or_false] at hf
    rcases hf with rfl | rfl | rfl | rfl | rfl | rfl | rfl
    · rw [show (Try.prog).cellsOf 85 = 32 from by kernel_rfl, (c_api_Entry.p_Blind _ _ _ _ _ _ _).eq]
      exact keyLits_id Try.underlying85 Try.underlying5 (by kernel_rfl) (by kernel_rfl) _ _
    · rw [show (Try.prog).cellsOf 9 = 1 from by kernel_rfl, cell_partD (c_api_Entry.p_Name _ _ _ _ _ _ _)]
      exact keyLits_nm Try.underlying9 _ ⟨name, o7⟩
    · rw [show (Try.prog).cellsOf 3 = 1 from by kernel_rfl, cell_partD (c_api_Entry.p_Kind _ _ _ _ _ _ _)]
      exact keyLits_i64z Try.underlying3 _ _ o1 o2
    · rw [show (Try.prog).cellsOf 85 = 32 from by kernel_rfl, (c_api_Entry.p_Id _ _ _ _ _ _ _).eq]
      exact keyLits_id Try.underlying85 Try.underlying5 (by kernel_rfl) (by kernel_rfl) _ _
    · rw [show (Try.prog).cellsOf 55 = 32 from by kernel_rfl, (c_api_Entry.p_Key _ _ _ _ _ _ _).eq]
      exact keyLits_id Try.underlying55 Try.underlying5 (by kernel_rfl) (by kernel_rfl) _ _
    · rw [show (Try.prog).cellsOf 32 = 1 from by kernel_rfl, cell_partD (c_api_Entry.p_Realm _ _ _ _ _ _ _)]
      exact keyLits_u32z Try.underlying32 _ _ o3 o4
    · rw [show (Try.prog).cellsOf 32 = 1 from by kernel_rfl, cell_partD (c_api_Entry.p_Epoch _ _ _ _ _ _ _)]
      exact keyLits_u32z Try.underlying32 _ _ o5 o6
instance eq_entry : EqRec Try.prog 87 envK where
  key := mk_entry
  agg a := ⟨_, rfl⟩
  eq w _ _ _ _ h1 h2 := run_equal_deep w (m := 6) (by omega) (by kernel_rfl) (by rw [Try.underlying87]) h1 h2
  guard := by kernel_rfl
instance decEn : DecidableEq En := fun a b => decidable_of_iff (a.blind = b.blind ∧ a.name = b.name ∧ a.kind = b.kind ∧ a.id = b.id ∧ a.key = b.key ∧ a.realm = b.realm ∧ a.epoch = b.epoch) ⟨fun h => by
  obtain ⟨a1, a2, a3, a4, a5, a6, a7⟩ := a
  obtain ⟨b1, b2, b3, b4, b5, b6, b7⟩ := b
  simp only at h
  obtain ⟨rfl, rfl, rfl, rfl, rfl, rfl, rfl⟩ := h
  rfl, fun h => by subst h; exact ⟨rfl, rfl, rfl, rfl, rfl, rfl, rfl⟩⟩
theorem ent_at {l m : List En} {k : Nat} (hl : k < l.length) (hm : k < m.length) (h : l[k] ≠ m[k]) : l ≠ m := fun e => by subst e; exact h rfl
theorem ent_all {l m : List En} (hl : l.length = m.length) (h : ∀ k (hk : k < l.length), l[k] = m[k]'(by omega)) : l = m := List.ext_getElem hl fun k h1 h2 => h k h1
set_option maxRecDepth 100000 in
set_option maxHeartbeats 1000000 in
theorem same_entries {S : Nat → Prop} {w0 w : World} {L : List Ent} {A B : Option Addr} {c d : Nat} {l m : List En} (h : St S w0 w L) [ka : HasSl L A l.length c 100 (l.flatMap enK)] [kb : HasSl L B m.length d 100 (m.flatMap enK)] (hl : ∀ e ∈ l, EnOk e) (hm : ∀ e ∈ m, EnOk e) (h63 : l.length ≤ 100000) :
    Calls Try.prog 37 #[.slice A l.length c, .slice B m.length d] w fun r w' => r = .returned (.bool (decide (l = m))) ∧ St S w0 w' L := by
  by_cases hlen : l.length = m.length
  · have f1 : ((l.length : Int) != (m.length : Int)) = false := by simp; omega
    have Hl := Lib.hid hl
    have Hm := Lib.hid hm
    clear hl hm
    go_enter Try.func37, Try.ntmps37
    go_wp2
    go_loopw [13] (fun iv wr => ∃ k : Nat, iv = .int .i64 (k : Int) ∧ k ≤ l.length ∧ Hid (∀ j (hj : j < l.length), j < k → l[j] = m[j]'(by omega)) ∧ St S w0 wr L) (fun iv _ => l.length - (intOf iv).toNat)
    case atStart => exact ⟨0, rfl, Nat.zero_le _, Lib.hid (fun j hj h => by omega), h⟩
    case round =>
      clear h
      obtain ⟨k, rfl, hk, Hal, h⟩ := hrel
      by_cases hkl : k < l.length
      · have f2 : (k : Int) < (l.length : Int) := by omega
        have f3 : (k : Int) < (m.length : Int) := by omega
        have t1 : ((k : Int)).toNat = k := by omega
        have hkm : k < m.length := by omega
        obtain ⟨x, hx⟩ : ∃ x, l[k] = x := ⟨_, rfl⟩
        obtain ⟨y, hy⟩ : ∃ y, m[k] = y := ⟨_, rfl⟩
        have hxo : EnOk x := Hl.out x (by rw [← hx]; exact List.getElem_mem _)
        have hyo : EnOk y := Hm.out y (by rw [← hy]; exact List.getElem_mem _)
        have hn1 := (h.sl A l.length c).pos (by omega)
        have hn2 := (h.sl B m.length d).pos (by omega)
        obtain ⟨b, off, rfl, _⟩ := hn1
        obtain ⟨b2, off2, rfl, _⟩ := hn2
        have hcx : ∀ w, Sl w (some ⟨b, off, none⟩) l.length c 100 (l.flatMap enK) → Cells w b (off + k * 100) (enK x) := fun w hs => by rw [← hx]; exact hs.elemAt enK_length hkl (by omega)
        have hcy : ∀ w, Sl w (some ⟨b2, off2, none⟩) m.length d 100 (m.flatMap enK) → Cells w b2 (off2 + k * 100) (enK y) := fun w hs => by rw [← hy]; exact hs.elemAt enK_length hkm (by omega)
        have Hcx := Lib.hid hcx
        have Hcy := Lib.hid hcy
        obtain ⟨D, hD⟩ : ∃ D, decide (x = y) = D := ⟨_, rfl⟩
        have hDi : D = true ↔ (⟨x, hxo⟩ : EnS) = ⟨y, hyo⟩ := by rw [← hD]; simp
        have HD := Lib.hid hDi
        clear hcx hcy hDi
        cases D with
        | true =>
          have Hal2 : Hid (∀ j (hj : j < l.length), j < k + 1 → l[j] = m[j]'(by omega)) := Lib.hid (fun j hj h2 => by
            rcases Nat.lt_succ_iff_lt_or_eq.1 h2 with h3 | rfl
            · exact Hal.out j hj h3
            · rw [hx, hy]; exact of_decide_eq_true hD)
          clear hD hx hy
          go_upto_region 6 with fail
          refine wp_region_K 9 (fun w' => St _ _ w' _) (by kernel_rfl) h.drew ?_; replace h := h.drew
          refine wpAnyK_pure 16 (v := ?_) (i := 0) (fuel := 8) rfl rfl (by kernel_rfl) (by kernel_rfl) (by kernel_rfl) (by decide) (fun _ _ _ h => h) (Or.inl ⟨by rfl, fun w _ => ?_⟩) ?_; rotate_left; (go_simp; with_reducible rfl); simp only [Act.put, List.setIfInBounds_toArray, List.set_cons_zero, List.set_cons_succ]
          refine wpAnyK_pure 17 (v := ?_) (i := 1) (fuel := 7) rfl rfl (by kernel_rfl) (by kernel_rfl) (by kernel_rfl) (by decide) (fun _ _ _ h => h) (Or.inl ⟨by rfl, fun w _ => ?_⟩) ?_; rotate_left; (go_simp; with_reducible rfl); simp only [Act.put, List.setIfInBounds_toArray, List.set_cons_zero, List.set_cons_succ]
          refine wpAnyK_pure 18 (v := ?_) (i := 2) (fuel := 6) rfl rfl (by kernel_rfl) (by kernel_rfl) (by kernel_rfl) (by decide) (fun _ _ _ h => h) (Or.inl ⟨by rfl, fun w _ => ?_⟩) ?_; rotate_left; (go_simp; with_reducible rfl); simp only [Act.put, List.setIfInBounds_toArray, List.set_cons_zero, List.set_cons_succ]
          refine wpAnyK_load 19 (i := 3) (fuel := 5) rfl rfl (by kernel_rfl) (by kernel_rfl) (by kernel_rfl) (.inr (by decide)) (by decide) (fun _ _ _ h => h) rfl (fun w h => ex_load_at _ _ rfl b (off + k * 100) rfl (enK x) (enK_length _) (Hcx.out _ (h.sl (some ⟨b, off, none⟩) l.length c))) ?_; simp only [Act.put, List.setIfInBounds_toArray, List.set_cons_zero, List.set_cons_succ]
          refine wpAnyK_pure 20 (v := ?_) (i := 4) (fuel := 4) rfl rfl (by kernel_rfl) (by kernel_rfl) (by kernel_rfl) (by decide) (fun _ _ _ h => h) (Or.inl ⟨by rfl, fun w _ => ?_⟩) ?_; rotate_left; (go_simp; with_reducible rfl); simp only [Act.put, List.setIfInBounds_toArray, List.set_cons_zero, List.set_cons_succ]
          refine wpAnyK_pure 21 (v := ?_) (i := 5) (fuel := 3) rfl rfl (by kernel_rfl) (by kernel_rfl) (by kernel_rfl) (by decide) (fun _ _ _ h => h) (Or.inl ⟨by rfl, fun w _ => ?_⟩) ?_; rotate_left; (go_simp; with_reducible rfl); simp only [Act.put, List.setIfInBounds_toArray, List.set_cons_zero, List.set_cons_succ]
          refine wpAnyK_pure 22 (v := ?_) (i := 6) (fuel := 2) rfl rfl (by kernel_rfl) (by kernel_rfl) (by kernel_rfl) (by decide) (fun _ _ _ h => h) (Or.inl ⟨by rfl, fun w _ => ?_⟩) ?_; rotate_left; (go_simp; with_reducible rfl); simp only [Act.put, List.setIfInBounds_toArray, List.set_cons_zero, List.set_cons_succ]
          refine wpAnyK_load 23 (i := 7) (fuel := 1) rfl rfl (by kernel_rfl) (by kernel_rfl) (by kernel_rfl) (.inr (by decide)) (by decide) (fun _ _ _ h => h) rfl (fun w h => ex_load_at _ _ rfl b2 (off2 + k * 100) rfl (enK y) (enK_length _) (Hcy.out _ (h.sl (some ⟨b2, off2, none⟩) m.length d))) ?_; simp only [Act.put, List.setIfInBounds_toArray, List.set_cons_zero, List.set_cons_succ]
          refine wpAnyK_load 24 (i := 8) (fuel := 0) rfl rfl (by kernel_rfl) (by kernel_rfl) (by kernel_rfl) (.inr (by decide)) (by decide) (fun _ _ _ h => h) rfl (fun w h => ex_neqr (kv := envK) _ _ _ _ rfl ⟨x, hxo⟩ ⟨y, hyo⟩ rfl rfl true HD.out) ?_; simp only [Act.put, List.setIfInBounds_toArray, List.set_cons_zero, List.set_cons_succ]
          refine wpAnyK_done (by kernel_rfl) ?_
          go_wp2
          refine ⟨⟨k + 1, by push_cast; rfl, by omega, Hal2, h.to⟩, ?_⟩
          simp only [intOf]
          omega
        | false =>
          have Hd : Hid (decide (l = m) = false) := Lib.hid (decide_eq_false (ent_at hkl hkm (by rw [hx, hy]; exact of_decide_eq_false hD)))
          clear hD hx hy
          go_upto_region 6 with fail
          refine wp_region_K 9 (fun w' => St _ _ w' _) (by kernel_rfl) h.drew ?_; replace h := h.drew
          refine wpAnyK_pure 16 (v := ?_) (i := 0) (fuel := 8) rfl rfl (by kernel_rfl) (by kernel_rfl) (by kernel_rfl) (by decide) (fun _ _ _ h => h) (Or.inl ⟨by rfl, fun w _ => ?_⟩) ?_; rotate_left; (go_simp; with_reducible rfl); simp only [Act.put, List.setIfInBounds_toArray, List.set_cons_zero, List.set_cons_succ]
          refine wpAnyK_pure 17 (v := ?_) (i := 1) (fuel := 7) rfl rfl (by kernel_rfl) (by kernel_rfl) (by kernel_rfl) (by decide) (fun _ _ _ h => h) (Or.inl ⟨by rfl, fun w _ => ?_⟩) ?_; rotate_left; (go_simp; with_reducible rfl); simp only [Act.put, List.setIfInBounds_toArray, List.set_cons_zero, List.set_cons_succ]
          refine wpAnyK_pure 18 (v := ?_) (i := 2) (fuel := 6) rfl rfl (by kernel_rfl) (by kernel_rfl) (by kernel_rfl) (by decide) (fun _ _ _ h => h) (Or.inl ⟨by rfl, fun w _ => ?_⟩) ?_; rotate_left; (go_simp; with_reducible rfl); simp only [Act.put, List.setIfInBounds_toArray, List.set_cons_zero, List.set_cons_succ]
          refine wpAnyK_load 19 (i := 3) (fuel := 5) rfl rfl (by kernel_rfl) (by kernel_rfl) (by kernel_rfl) (.inr (by decide)) (by decide) (fun _ _ _ h => h) rfl (fun w h => ex_load_at _ _ rfl b (off + k * 100) rfl (enK x) (enK_length _) (Hcx.out _ (h.sl (some ⟨b, off, none⟩) l.length c))) ?_; simp only [Act.put, List.setIfInBounds_toArray, List.set_cons_zero, List.set_cons_succ]
          refine wpAnyK_pure 20 (v := ?_) (i := 4) (fuel := 4) rfl rfl (by kernel_rfl) (by kernel_rfl) (by kernel_rfl) (by decide) (fun _ _ _ h => h) (Or.inl ⟨by rfl, fun w _ => ?_⟩) ?_; rotate_left; (go_simp; with_reducible rfl); simp only [Act.put, List.setIfInBounds_toArray, List.set_cons_zero, List.set_cons_succ]
          refine wpAnyK_pure 21 (v := ?_) (i := 5) (fuel := 3) rfl rfl (by kernel_rfl) (by kernel_rfl) (by kernel_rfl) (by decide) (fun _ _ _ h => h) (Or.inl ⟨by rfl, fun w _ => ?_⟩) ?_; rotate_left; (go_simp; with_reducible rfl); simp only [Act.put, List.setIfInBounds_toArray, List.set_cons_zero, List.set_cons_succ]
          refine wpAnyK_pure 22 (v := ?_) (i := 6) (fuel := 2) rfl rfl (by kernel_rfl) (by kernel_rfl) (by kernel_rfl) (by decide) (fun _ _ _ h => h) (Or.inl ⟨by rfl, fun w _ => ?_⟩) ?_; rotate_left; (go_simp; with_reducible rfl); simp only [Act.put, List.setIfInBounds_toArray, List.set_cons_zero, List.set_cons_succ]
          refine wpAnyK_load 23 (i := 7) (fuel := 1) rfl rfl (by kernel_rfl) (by kernel_rfl) (by kernel_rfl) (.inr (by decide)) (by decide) (fun _ _ _ h => h) rfl (fun w h => ex_load_at _ _ rfl b2 (off2 + k * 100) rfl (enK y) (enK_length _) (Hcy.out _ (h.sl (some ⟨b2, off2, none⟩) m.length d))) ?_; simp only [Act.put, List.setIfInBounds_toArray, List.set_cons_zero, List.set_cons_succ]
          refine wpAnyK_load 24 (i := 8) (fuel := 0) rfl rfl (by kernel_rfl) (by kernel_rfl) (by kernel_rfl) (.inr (by decide)) (by decide) (fun _ _ _ h => h) rfl (fun w h => ex_neqr (kv := envK) _ _ _ _ rfl ⟨x, hxo⟩ ⟨y, hyo⟩ rfl rfl false HD.out) ?_; simp only [Act.put, List.setIfInBounds_toArray, List.set_cons_zero, List.set_cons_succ]
          refine wpAnyK_done (by kernel_rfl) ?_
          go_wp2
          go_ret
          exact ⟨by rw [Hd.out]; rfl, h.to⟩
      · obtain rfl : k = l.length := by omega
        have Hd : Hid (decide (l = m) = true) := Lib.hid (decide_eq_true (ent_all hlen fun k hk => Hal.out k hk hk))
        have hkk : ¬ ((l.length : Int) < (l.length : Int)) := by omega
        clear hkl
        go_wp2
        go_ret
        exact ⟨by rw [Hd.out]; rfl, h.to⟩
  · have f1 : ((l.length : Int) != (m.length : Int)) = true := by simp; omega
    have Hd : Hid (decide (l = m) = false) := Lib.hid (decide_eq_false fun e => hlen (by rw [e]))
    go_enter Try.func37, Try.ntmps37
    go_wp2
    go_ret
    exact ⟨by rw [Hd.out]; rfl, h.to⟩
end Go.Proofs.Ytnokgejmlpmgfaa
