/- slices.Compact at ids. -/
import Derived.Test.YtionnlckjjojnaaCCompactM
import Derived.Test.YtionnlckjjojnaaCB2
import Derived.Test.YtionnlckjjojnaaCB1
import Derived.Test.YtionnlckjjojnaaCTy
namespace Go.Proofs.Ytionnlckjjojnaa
open Go.RowKit
set_option linter.unusedVariables false
set_option linter.unusedSimpArgs false

section
variable {P : Program} {S : Nat → Prop} {w0 w : World} {L F : List Ent} {ρ : Operand → Value} {o : Oper}
theorem zeroCells_one {zs : List Value} {sz : Nat} [kr : Row zs sz] (n : Nat) : ∀ u ∈ (Builtin.zeroCells zs.toArray n).toList, u.oneCell' = true := by
  intro u hu
  simp only [Builtin.zeroCells, Array.toList_map, Array.toList_range, List.mem_map, List.mem_range, List.size_toArray] at hu
  obtain ⟨i, hi, rfl⟩ := hu
  have h0 : 0 < zs.length := by
    rcases Nat.eq_zero_or_pos zs.length with h | h
    · rw [h] at hi; simp at hi
    · exact h
  have h1 : i % zs.length < zs.toArray.size := by rw [List.size_toArray]; exact Nat.mod_lt _ h0
  rw [getElem!_pos zs.toArray _ h1]
  exact kr.one _ (by simp)
/-- clear(s[k:]). -/
theorem ex_clear (h : St S w0 w L) (s : Operand) (t : TypeId) (ho : o.op = .call { callee := .builtin .clear, args := #[s], argTypes := #[t] }) {e : TypeId} {sz bytes : Nat} [ke : Elm P t e sz bytes] {zs : List Value} [kz : Zer P e zs] [kr : Row zs sz]
    (g off k d : Nat) {n c : Nat} {xs : List Value} [ko : SlotO L (some ⟨g, off, none⟩) e sz n c xs F] (hk : k ≤ n) (hs : ρ s = .slice (some ⟨g, off + k * sz, none⟩) (n - k) d) :
    Runs P ρ o w fun v w' => ∃ Z, Z.length = (n - k) * sz ∧ St S w0 w' (eOwn e sz (some ⟨g, off, none⟩) n c (xs.take (k * sz) ++ Z) :: F) := by
  obtain ⟨ii, z, hi, hz, hsize, hby, hzs⟩ := ke.info
  obtain ⟨z', hz', hzc⟩ := kz.eq
  have hzz : z = z' := by rw [hi, Option.map_some, hz] at hz'; simpa using hz'
  subst hzz
  have hown := h.row (some ⟨g, off, none⟩) (k := ko)
  have hxl : xs.length = n * sz := hown.1
  have m1 : k * sz ≤ n * sz := Nat.mul_le_mul_right _ hk
  have msub : (n - k) * sz = n * sz - k * sz := Nat.sub_mul _ _ _
  have exec : ∀ w', (Builtin.clear_ #[t] o.type #[.slice (some ⟨g, off + k * sz, none⟩) (n - k) d]).run P w = .ok (.tuple #[]) w' → (execOp ρ o).run P w = .ok (.value (.tuple #[])) w' := fun w' hrun => by
    unfold execOp
    simp only [ho, resolve, invoke, builtin, Sem.run_bind, Sem.run_pure, Result.andThen_ok, List.map_toArray, List.map_cons, List.map_nil, hs, hrun]
  by_cases h0 : n - k = 0
  · refine ⟨by simp [ho], by simp [Oper.about, ho, resolve, Target.leads], .tuple #[], w, .inl (exec w ?_), [], by rw [h0]; simp, ?_⟩
    · rw [h0]
      simp [Builtin.clear_, run_underlying ke.und]
    · rw [List.append_nil, List.take_of_length_le (by rw [hxl, show n = k by omega]; exact Nat.le_refl _)]
      exact h.perm ko.perm
  · rcases hown.2 with ⟨h4, _, _⟩ | ⟨g', off', cur, h4, hg, hnc, hcm, hle, htk⟩
    · cases h4
    · cases h4
      have m2 : n * sz ≤ c * sz := Nat.mul_le_mul_right _ hnc
      have hcl : cur.toList.length = cur.size := by simp
      obtain ⟨Z, hZ⟩ : ∃ Z, (Builtin.zeroCells zs.toArray (n - k)).toList = Z := ⟨_, rfl⟩
      have hZl : Z.length = (n - k) * sz := by rw [← hZ]; simp [Builtin.zeroCells, kr.len]
      have hZ1 : ∀ u ∈ Z, u.oneCell' = true := by rw [← hZ]; exact zeroCells_one (n - k)
      have hst := run_storeCells_at P g (off + k * sz) e Z 0 cur w hg (by omega) hZ1
      rw [Nat.add_zero] at hst
      have hrun : (Builtin.clear_ #[t] o.type #[.slice (some ⟨g, off + k * sz, none⟩) (n - k) d]).run P w = .ok (.tuple #[]) (w.setRow g (cur.toList.take (off + k * sz) ++ Z ++ cur.toList.drop (off + k * sz + Z.length)).toArray) := by
        obtain ⟨m, hm⟩ : ∃ m, n - k = m + 1 := ⟨n - k - 1, by omega⟩
        have hZ' : (Builtin.zeroCells z.cells (m + 1)).toList = Z := by rw [hzc, ← hm, hZ]
        rw [hm]
        simp [Builtin.clear_, run_underlying ke.und, zeroValue, typeInfo, hi, hz, hZ', hst]
      obtain ⟨hb', hs'⟩ := Blk.setRow (w := w) hg (cur.toList.take (off + k * sz) ++ Z ++ cur.toList.drop (off + k * sz + Z.length)).toArray
      refine ⟨by simp [ho], by simp [Oper.about, ho, resolve, Target.leads], _, _, .inl (exec _ hrun), Z, hZl, h.set (k := ⟨ko.perm⟩) (eOwn e sz (some ⟨g, off, none⟩) n c (xs.take (k * sz) ++ Z)) (hs'.mono fun k _ hk => ⟨_, rfl, hk.symm⟩) ⟨?_, .inr ⟨g, off, _, rfl, hb', hnc, hcm, ?_, ?_⟩⟩ (fun k hk => .inl hk) (fun _ hk => hk)⟩
      · rw [List.length_append, List.length_take, hxl, hZl]; omega
      · simp only [List.size_toArray, List.length_append, List.length_take, List.length_drop]; omega
      · have h5 : (cur.toList.take (off + k * sz)).length = off + k * sz := by rw [List.length_take]; omega
        rw [List.append_assoc, List.drop_append_of_le_length (by omega), List.drop_take, Nat.add_sub_cancel_left]
        have h6 : (List.take (k * sz) (cur.toList.drop off)).length = k * sz := by rw [List.length_take, List.length_drop]; omega
        rw [List.take_append, h6, List.take_of_length_le (by omega), ← htk, List.take_take, Nat.min_eq_left m1, List.take_append, hZl]
        rw [List.take_of_length_le (l := Z) (by omega), show n * sz - k * sz - (n - k) * sz = 0 by omega, List.take_zero, List.append_nil]
end
/-- Behind so many of the row's ids: what stands at its beginning, and that the rest is as it was. -/
structure CompAt (l cur : List Id) (m kk : Nat) : Prop where
  len : cur.length = l.length
  front : cur.take kk = compN l m
  fits : kk < m
  rest : ∀ j, m ≤ j + 1 → cur[j]? = l[j]?
theorem CompAt.kk {l cur : List Id} {m kk : Nat} (h : CompAt l cur m kk) (hm : m ≤ l.length) : kk = (compN l m).length := by
  have h1 := h.fits
  have h2 := h.len
  rw [← h.front, List.length_take]
  omega
theorem CompAt.same {l cur : List Id} {n kk : Nat} (h : CompAt l cur (n + 1) kk) (hn : n + 1 < l.length) (he : l[n + 1] = l[n]) : CompAt l cur (n + 2) kk :=
  ⟨h.len, by rw [compN_same hn he]; exact h.front, by have := h.fits; omega, fun j hj => h.rest j (by omega)⟩
theorem CompAt.new {l cur : List Id} {n kk : Nat} (h : CompAt l cur (n + 1) kk) (hn : n + 1 < l.length) (he : l[n + 1] ≠ l[n]) : CompAt l (cur.set kk l[n + 1]) (n + 2) (kk + 1) := by
  have h1 := h.fits
  have h2 := h.len
  refine ⟨by rw [List.length_set]; exact h.len, ?_, by omega, fun j hj => ?_⟩
  · rw [List.take_succ_eq_append_getElem (by rw [List.length_set]; omega), List.getElem_set_self, List.take_set_of_le (Nat.le_refl kk), h.front, compN_new hn he]
  · rw [List.getElem?_set_ne (by omega)]
    exact h.rest j (by omega)
set_option maxRecDepth 100000 in
set_option maxHeartbeats 2000000 in
theorem compact_ids {S : Nat → Prop} {w0 w : World} {L F : List Ent} {A : Option Addr} {n c : Nat} {l : List Id} (h : St S w0 w L) [ko : SlotO L A 33 32 n c (l.flatMap idc) F] (hn : n = l.length) (hl : l.length ≤ 1000000) :
    Calls Try.prog 61 #[.slice A n c] w fun e w' => ∃ c1, e = .returned (.slice A (compM l).length c1) ∧ St S w0 w' (eOwn 33 32 A (compM l).length c1 ((compM l).flatMap idc) :: F) := by
  replace h := h.perm ko.perm
  subst hn
  have hlec := (h.sl A l.length c).le
  have hcap : c ≤ 9223372036854775807 := by have := (h.sl A l.length c).cap; simpa [maxLen] using this
  by_cases h2 : l.length < 2
  · have f1 : (l.length : Int) < 2 := by omega
    have e : compM l = l := by
      rw [compM, compN_take (Nat.le_refl _) (fun j h1 h3 => by omega), List.take_length]
    rw [e]
    go_enter Try.func61, Try.ntmps61
    go_wp2
    go_ret
    exact ⟨c, rfl, h⟩
  · have f1 : ¬ (l.length : Int) < 2 := by omega
    obtain ⟨b, off, rfl, _⟩ := (h.sl A l.length c).pos (by omega)
    go_enter Try.func61, Try.ntmps61
    go_wp2
    go_loopw [3] (fun x wr => ∃ k : Nat, x = .int .i64 (k : Int) ∧ 1 ≤ k ∧ k ≤ l.length ∧ Hid (∀ j, 0 < j → j < k → l[j]? ≠ l[j - 1]?) ∧ St S w0 wr (eOwn 33 32 (some ⟨b, off, none⟩) l.length c (l.flatMap idc) :: F)) (fun x _ => l.length - (intOf x).toNat)
    case atStart => exact ⟨1, rfl, Nat.le_refl _, by omega, Lib.hid (fun j h1 h2 => by omega), h⟩
    case round =>
      clear h
      obtain ⟨k, rfl, hk1, hkl, Hd, h⟩ := hrel
      by_cases hkn : k < l.length
      · obtain ⟨p, hp⟩ : ∃ p, k = p + 1 := ⟨k - 1, by omega⟩
        have Hp := Lib.hid hp
        have hpl : p < l.length := by omega
        have f2 : (k : Int) < (l.length : Int) := by omega
        have e1 : (k : Int) - 1 = (p : Int) := by omega
        have tp : ((p : Int)).toNat = p := by omega
        have tk : ((k : Int)).toNat = k := by omega
        have wp : IntKind.i64.wrap (p : Int) = (p : Int) := by rw [IntKind.wrap_i64]; omega
        have wk : IntKind.i64.wrap (k : Int) = (k : Int) := by rw [IntKind.wrap_i64]; omega
        have f3 : (p : Int) < (l.length : Int) := by omega
        have f4 : (0 : Int) ≤ (p : Int) := by omega
        have f5 : (0 : Int) ≤ (k : Int) := by omega
        obtain ⟨x, hx⟩ : ∃ x, l[k] = x := ⟨_, rfl⟩
        obtain ⟨y, hy⟩ : ∃ y, l[p] = y := ⟨_, rfl⟩
        have Hx := Lib.hid hx
        have Hy := Lib.hid hy
        have hcx : ∀ {w}, Sl w (some ⟨b, off, none⟩) l.length c 32 (l.flatMap idc) → Cells w b (off + k * 32) (u8s x.1) := fun hs => by rw [← hx]; exact hs.elemAt idc_length hkn (by omega)
        have hcy : ∀ {w}, Sl w (some ⟨b, off, none⟩) l.length c 32 (l.flatMap idc) → Cells w b (off + p * 32) (u8s y.1) := fun hs => by rw [← hy]; exact hs.elemAt idc_length (by omega) (by omega)
        clear hx hy hp
        by_cases hxy : x = y
        · have hB : (x.1 == y.1) = true := by rw [hxy]; simp
          have Hxy := Lib.hid hxy
          clear hxy
          go_upto_region 6 with (fail)
          refine wp_region_K 10 (fun w' => St _ _ w' _) (by kernel_rfl) h.drew ?_; replace h := h.drew
          refine wpAnyK_pure 16 (v := ?_) (i := 0) (fuel := 9) rfl rfl (by kernel_rfl) (by kernel_rfl) (by kernel_rfl) (by decide) (fun _ _ _ h => h) (Or.inl ⟨by rfl, fun w _ => ?_⟩) ?_; rotate_left; (go_simp; with_reducible rfl); simp only [Act.put, List.setIfInBounds_toArray, List.set_cons_zero, List.set_cons_succ]
          refine wpAnyK_pure 17 (v := ?_) (i := 1) (fuel := 8) rfl rfl (by kernel_rfl) (by kernel_rfl) (by kernel_rfl) (by decide) (fun _ _ _ h => h) (Or.inl ⟨by rfl, fun w _ => ?_⟩) ?_; rotate_left; (go_simp; with_reducible rfl); simp only [Act.put, List.setIfInBounds_toArray, List.set_cons_zero, List.set_cons_succ]
          refine wpAnyK_pure 18 (v := ?_) (i := 2) (fuel := 7) rfl rfl (by kernel_rfl) (by kernel_rfl) (by kernel_rfl) (by decide) (fun _ _ _ h => h) (Or.inl ⟨by rfl, fun w _ => ?_⟩) ?_; rotate_left; (go_simp; with_reducible rfl); simp only [Act.put, List.setIfInBounds_toArray, List.set_cons_zero, List.set_cons_succ]
          refine wpAnyK_load 19 (i := 3) (fuel := 6) rfl rfl (by kernel_rfl) (by kernel_rfl) (by kernel_rfl) (.inr (by decide)) (by decide) (fun _ _ _ h => h) rfl (fun w h => ex_load_at _ _ rfl b (off + k * 32) rfl (u8s x.1) (by rw [u8s_length, x.2]) (hcx (h.sl (some ⟨b, off, none⟩) l.length c))) ?_; simp only [Act.put, List.setIfInBounds_toArray, List.set_cons_zero, List.set_cons_succ]
          refine wpAnyK_pure 20 (v := ?_) (i := 4) (fuel := 5) rfl rfl (by kernel_rfl) (by kernel_rfl) (by kernel_rfl) (by decide) (fun _ _ _ h => h) (Or.inl ⟨by rfl, fun w _ => ?_⟩) ?_; rotate_left; (go_simp; with_reducible rfl); simp only [Act.put, List.setIfInBounds_toArray, List.set_cons_zero, List.set_cons_succ]
          refine wpAnyK_pure 21 (v := ?_) (i := 5) (fuel := 4) rfl rfl (by kernel_rfl) (by kernel_rfl) (by kernel_rfl) (by decide) (fun _ _ _ h => h) (Or.inl ⟨by rfl, fun w _ => ?_⟩) ?_; rotate_left; (go_simp; with_reducible rfl); simp only [Act.put, List.setIfInBounds_toArray, List.set_cons_zero, List.set_cons_succ]
          refine wpAnyK_pure 22 (v := ?_) (i := 6) (fuel := 3) rfl rfl (by kernel_rfl) (by kernel_rfl) (by kernel_rfl) (by decide) (fun _ _ _ h => h) (Or.inl ⟨by rfl, fun w _ => ?_⟩) ?_; rotate_left; (go_simp; with_reducible rfl); simp only [Act.put, List.setIfInBounds_toArray, List.set_cons_zero, List.set_cons_succ]
          refine wpAnyK_pure 23 (v := ?_) (i := 7) (fuel := 2) rfl rfl (by kernel_rfl) (by kernel_rfl) (by kernel_rfl) (by decide) (fun _ _ _ h => h) (Or.inl ⟨by rfl, fun w _ => ?_⟩) ?_; rotate_left; (go_simp; with_reducible rfl); simp only [Act.put, List.setIfInBounds_toArray, List.set_cons_zero, List.set_cons_succ]
          refine wpAnyK_load 24 (i := 8) (fuel := 1) rfl rfl (by kernel_rfl) (by kernel_rfl) (by kernel_rfl) (.inr (by decide)) (by decide) (fun _ _ _ h => h) rfl (fun w h => ex_load_at _ _ rfl b (off + p * 32) rfl (u8s y.1) (by rw [u8s_length, y.2]) (hcy (h.sl (some ⟨b, off, none⟩) l.length c))) ?_; simp only [Act.put, List.setIfInBounds_toArray, List.set_cons_zero, List.set_cons_succ]
          refine wpAnyK_load 25 (i := 9) (fuel := 0) rfl rfl (by kernel_rfl) (by kernel_rfl) (by kernel_rfl) (.inr (by decide)) (by decide) (fun _ _ _ h => h) rfl (fun w h => ex_eq 33 (.tmp 19) (.tmp 24) _ rfl x.1 y.1 rfl rfl x.2 y.2 true hB) ?_; simp only [Act.put, List.setIfInBounds_toArray, List.set_cons_zero, List.set_cons_succ]
          refine wpAnyK_done (by kernel_rfl) ?_
          have hck : ¬ c = k := by omega
          have g1 : (k : Int) ≤ (l.length : Int) := by omega
          have g2 : (l.length : Int) ≤ (c : Int) := by omega
          have g3 : (k : Int) ≤ (c : Int) := by omega
          have g4 : k ≤ l.length := by omega
          have g5 : (l.length : Int) - (k : Int) = ((l.length - k : Nat) : Int) := by omega
          obtain ⟨r, hr⟩ : ∃ r, l.length - k = r := ⟨_, rfl⟩
          have Hr := Lib.hid hr
          go_wp2
          have hr1 : k + r = l.length := by omega
          have Hst := Lib.hid (show CompAt l l (k + 1) k from ⟨rfl, by
            have hp := Hp.out
            subst hp
            rw [compN_same hkn (by rw [Hx.out, Hy.out]; exact Hxy.out), compN_take (by omega) Hd.out], by omega, fun j hj => rfl⟩)
          clear hr g5
          go_loopw [3, 5] (fun kv jv wr => ∃ (j m kk : Nat) (cur : List Id), kv = .int .i64 (kk : Int) ∧ jv = .int .i64 (j : Int) ∧ 1 ≤ j ∧ j ≤ r ∧ Hid (m = k + j) ∧ Hid (CompAt l cur m kk) ∧ St S w0 wr (eOwn 33 32 (some ⟨b, off, none⟩) l.length c (cur.flatMap idc) :: F)) (fun _ jv _ => r - (intOf jv).toNat)
          case atStart => exact ⟨1, k + 1, k, l, rfl, rfl, by omega, by omega, Lib.hid rfl, Hst, h⟩
          case round =>
            clear h
            obtain ⟨j, m, kk, cur, rfl, rfl, hj1, hjr, Hm, HC, h⟩ := hrel
            have hcl := HC.out.len
            have hfit := HC.out.fits
            have hmm := Hm.out
            have hkkc : ¬ c = kk := by omega
            by_cases hjn : j < r
            · obtain ⟨q, hq⟩ : ∃ q, j = q + 1 := ⟨j - 1, by omega⟩
              have Hq := Lib.hid hq
              have i1 : k + j < l.length := by omega
              have i2 : k + q < l.length := by omega
              obtain ⟨x2, hx2⟩ : ∃ x2, l[k + j] = x2 := ⟨_, rfl⟩
              obtain ⟨y2, hy2⟩ : ∃ y2, l[k + q] = y2 := ⟨_, rfl⟩
              have Hx2 := Lib.hid hx2
              have Hy2 := Lib.hid hy2
              have c1 : cur[k + j]'(by omega) = x2 := by
                have := HC.out.rest (k + j) (by omega)
                rw [List.getElem?_eq_getElem (by omega), List.getElem?_eq_getElem i1, hx2] at this
                exact Option.some.inj this
              have c2 : cur[k + q]'(by omega) = y2 := by
                have := HC.out.rest (k + q) (by omega)
                rw [List.getElem?_eq_getElem (by omega), List.getElem?_eq_getElem i2, hy2] at this
                exact Option.some.inj this
              have hcx2 : ∀ {w}, Sl w (some ⟨b, off, none⟩) l.length c 32 (cur.flatMap idc) → Cells w b (off + k * 32 + j * 32) (u8s x2.1) := fun hs => by
                have := hs.elemAt idc_length (k := k + j) (by omega) (by omega)
                rw [c1, show off + (k + j) * 32 = off + k * 32 + j * 32 by omega] at this
                exact this
              have hcy2 : ∀ {w}, Sl w (some ⟨b, off, none⟩) l.length c 32 (cur.flatMap idc) → Cells w b (off + k * 32 + q * 32) (u8s y2.1) := fun hs => by
                have := hs.elemAt idc_length (k := k + q) (by omega) (by omega)
                rw [c2, show off + (k + q) * 32 = off + k * 32 + q * 32 by omega] at this
                exact this
              have q1 : (j : Int) - 1 = (q : Int) := by omega
              have q2 : (j : Int) < (r : Int) := by omega
              have q3 : (q : Int) < (r : Int) := by omega
              have q4 : ((j : Int)).toNat = j := by omega
              have q5 : ((q : Int)).toNat = q := by omega
              have q6 : IntKind.i64.wrap (q : Int) = (q : Int) := by rw [IntKind.wrap_i64]; omega
              have q7 : IntKind.i64.wrap (j : Int) = (j : Int) := by rw [IntKind.wrap_i64]; omega
              have q8 : (0 : Int) ≤ (q : Int) := by omega
              have q9 : (0 : Int) ≤ (j : Int) := by omega
              have v1 : (kk : Int) < (l.length : Int) := by omega
              have v2 : (0 : Int) ≤ (kk : Int) := by omega
              have v3 : ((kk : Int)).toNat = kk := by omega
              have v4 : IntKind.i64.wrap (kk : Int) = (kk : Int) := by rw [IntKind.wrap_i64]; omega
              have v5 : kk < cur.length := by omega
              have v6 : q < r := by omega
              have v7 : kk < l.length := by omega
              clear hx2 hy2 c1 c2 hq hmm hcl
              by_cases hne : x2 = y2
              · have hB2 : (!(x2.1 == y2.1)) = false := by rw [hne]; simp
                have Hne := Lib.hid hne
                clear hne
                go_upto_region 11 with (fail)
                refine wp_region_K 10 (fun w' => St _ _ w' _) (by kernel_rfl) h.drew ?_; replace h := h.drew
                refine wpAnyK_pure 35 (v := ?_) (i := 0) (fuel := 9) rfl rfl (by kernel_rfl) (by kernel_rfl) (by kernel_rfl) (by decide) (fun _ _ _ h => h) (Or.inl ⟨by rfl, fun w _ => ?_⟩) ?_; rotate_left; (go_simp; with_reducible rfl); simp only [Act.put, List.setIfInBounds_toArray, List.set_cons_zero, List.set_cons_succ]
                refine wpAnyK_pure 36 (v := ?_) (i := 1) (fuel := 8) rfl rfl (by kernel_rfl) (by kernel_rfl) (by kernel_rfl) (by decide) (fun _ _ _ h => h) (Or.inl ⟨by rfl, fun w _ => ?_⟩) ?_; rotate_left; (go_simp; with_reducible rfl); simp only [Act.put, List.setIfInBounds_toArray, List.set_cons_zero, List.set_cons_succ]
                refine wpAnyK_pure 37 (v := ?_) (i := 2) (fuel := 7) rfl rfl (by kernel_rfl) (by kernel_rfl) (by kernel_rfl) (by decide) (fun _ _ _ h => h) (Or.inl ⟨by rfl, fun w _ => ?_⟩) ?_; rotate_left; (go_simp; with_reducible rfl); simp only [Act.put, List.setIfInBounds_toArray, List.set_cons_zero, List.set_cons_succ]
                refine wpAnyK_load 38 (i := 3) (fuel := 6) rfl rfl (by kernel_rfl) (by kernel_rfl) (by kernel_rfl) (.inr (by decide)) (by decide) (fun _ _ _ h => h) rfl (fun w h => ex_load_at _ _ rfl b (off + k * 32 + j * 32) rfl (u8s x2.1) (by rw [u8s_length, x2.2]) (hcx2 (h.sl (some ⟨b, off, none⟩) l.length c))) ?_; simp only [Act.put, List.setIfInBounds_toArray, List.set_cons_zero, List.set_cons_succ]
                refine wpAnyK_pure 39 (v := ?_) (i := 4) (fuel := 5) rfl rfl (by kernel_rfl) (by kernel_rfl) (by kernel_rfl) (by decide) (fun _ _ _ h => h) (Or.inl ⟨by rfl, fun w _ => ?_⟩) ?_; rotate_left; (go_simp; with_reducible rfl); simp only [Act.put, List.setIfInBounds_toArray, List.set_cons_zero, List.set_cons_succ]
                refine wpAnyK_pure 40 (v := ?_) (i := 5) (fuel := 4) rfl rfl (by kernel_rfl) (by kernel_rfl) (by kernel_rfl) (by decide) (fun _ _ _ h => h) (Or.inl ⟨by rfl, fun w _ => ?_⟩) ?_; rotate_left; (go_simp; with_reducible rfl); simp only [Act.put, List.setIfInBounds_toArray, List.set_cons_zero, List.set_cons_succ]
                refine wpAnyK_pure 41 (v := ?_) (i := 6) (fuel := 3) rfl rfl (by kernel_rfl) (by kernel_rfl) (by kernel_rfl) (by decide) (fun _ _ _ h => h) (Or.inl ⟨by rfl, fun w _ => ?_⟩) ?_; rotate_left; (go_simp; with_reducible rfl); simp only [Act.put, List.setIfInBounds_toArray, List.set_cons_zero, List.set_cons_succ]
                refine wpAnyK_pure 42 (v := ?_) (i := 7) (fuel := 2) rfl rfl (by kernel_rfl) (by kernel_rfl) (by kernel_rfl) (by decide) (fun _ _ _ h => h) (Or.inl ⟨by rfl, fun w _ => ?_⟩) ?_; rotate_left; (go_simp; with_reducible rfl); simp only [Act.put, List.setIfInBounds_toArray, List.set_cons_zero, List.set_cons_succ]
                refine wpAnyK_load 43 (i := 8) (fuel := 1) rfl rfl (by kernel_rfl) (by kernel_rfl) (by kernel_rfl) (.inr (by decide)) (by decide) (fun _ _ _ h => h) rfl (fun w h => ex_load_at _ _ rfl b (off + k * 32 + q * 32) rfl (u8s y2.1) (by rw [u8s_length, y2.2]) (hcy2 (h.sl (some ⟨b, off, none⟩) l.length c))) ?_; simp only [Act.put, List.setIfInBounds_toArray, List.set_cons_zero, List.set_cons_succ]
                refine wpAnyK_load 44 (i := 9) (fuel := 0) rfl rfl (by kernel_rfl) (by kernel_rfl) (by kernel_rfl) (.inr (by decide)) (by decide) (fun _ _ _ h => h) rfl (fun w h => ex_neq 33 (.tmp 38) (.tmp 43) _ rfl x2.1 y2.1 rfl rfl x2.2 y2.2 false hB2) ?_; simp only [Act.put, List.setIfInBounds_toArray, List.set_cons_zero, List.set_cons_succ]
                refine wpAnyK_done (by kernel_rfl) ?_
                go_wp2
                refine ⟨⟨j + 1, m + 1, kk, cur, rfl, by push_cast; rfl, by omega, by omega, Lib.hid (by have := Hm.out; omega), Lib.hid ?_, h.to⟩, ?_⟩
                · have hC := HC.out
                  have hm := Hm.out
                  have hq := Hq.out
                  obtain rfl : m = (k + q) + 1 := by omega
                  subst hq
                  exact hC.same i1 (by rw [show l[k + q + 1] = x2 from Hx2.out, Hy2.out]; exact Hne.out)
                · simp only [intOf]
                  omega
              · have hB2 : (!(x2.1 == y2.1)) = true := by
                  simp only [Bool.not_eq_true', beq_eq_false_iff_ne, ne_eq]
                  exact fun e => hne (Subtype.ext e)
                have Hne := Lib.hid hne
                clear hne
                go_upto_region 11 with (fail)
                refine wp_region_K 10 (fun w' => St _ _ w' _) (by kernel_rfl) h.drew ?_; replace h := h.drew
                refine wpAnyK_pure 35 (v := ?_) (i := 0) (fuel := 9) rfl rfl (by kernel_rfl) (by kernel_rfl) (by kernel_rfl) (by decide) (fun _ _ _ h => h) (Or.inl ⟨by rfl, fun w _ => ?_⟩) ?_; rotate_left; (go_simp; with_reducible rfl); simp only [Act.put, List.setIfInBounds_toArray, List.set_cons_zero, List.set_cons_succ]
                refine wpAnyK_pure 36 (v := ?_) (i := 1) (fuel := 8) rfl rfl (by kernel_rfl) (by kernel_rfl) (by kernel_rfl) (by decide) (fun _ _ _ h => h) (Or.inl ⟨by rfl, fun w _ => ?_⟩) ?_; rotate_left; (go_simp; with_reducible rfl); simp only [Act.put, List.setIfInBounds_toArray, List.set_cons_zero, List.set_cons_succ]
                refine wpAnyK_pure 37 (v := ?_) (i := 2) (fuel := 7) rfl rfl (by kernel_rfl) (by kernel_rfl) (by kernel_rfl) (by decide) (fun _ _ _ h => h) (Or.inl ⟨by rfl, fun w _ => ?_⟩) ?_; rotate_left; (go_simp; with_reducible rfl); simp only [Act.put, List.setIfInBounds_toArray, List.set_cons_zero, List.set_cons_succ]
                refine wpAnyK_load 38 (i := 3) (fuel := 6) rfl rfl (by kernel_rfl) (by kernel_rfl) (by kernel_rfl) (.inr (by decide)) (by decide) (fun _ _ _ h => h) rfl (fun w h => ex_load_at _ _ rfl b (off + k * 32 + j * 32) rfl (u8s x2.1) (by rw [u8s_length, x2.2]) (hcx2 (h.sl (some ⟨b, off, none⟩) l.length c))) ?_; simp only [Act.put, List.setIfInBounds_toArray, List.set_cons_zero, List.set_cons_succ]
                refine wpAnyK_pure 39 (v := ?_) (i := 4) (fuel := 5) rfl rfl (by kernel_rfl) (by kernel_rfl) (by kernel_rfl) (by decide) (fun _ _ _ h => h) (Or.inl ⟨by rfl, fun w _ => ?_⟩) ?_; rotate_left; (go_simp; with_reducible rfl); simp only [Act.put, List.setIfInBounds_toArray, List.set_cons_zero, List.set_cons_succ]
                refine wpAnyK_pure 40 (v := ?_) (i := 5) (fuel := 4) rfl rfl (by kernel_rfl) (by kernel_rfl) (by kernel_rfl) (by decide) (fun _ _ _ h => h) (Or.inl ⟨by rfl, fun w _ => ?_⟩) ?_; rotate_left; (go_simp; with_reducible rfl); simp only [Act.put, List.setIfInBounds_toArray, List.set_cons_zero, List.set_cons_succ]
                refine wpAnyK_pure 41 (v := ?_) (i := 6) (fuel := 3) rfl rfl (by kernel_rfl) (by kernel_rfl) (by kernel_rfl) (by decide) (fun _ _ _ h => h) (Or.inl ⟨by rfl, fun w _ => ?_⟩) ?_; rotate_left; (go_simp; with_reducible rfl); simp only [Act.put, List.setIfInBounds_toArray, List.set_cons_zero, List.set_cons_succ]
                refine wpAnyK_pure 42 (v := ?_) (i := 7) (fuel := 2) rfl rfl (by kernel_rfl) (by kernel_rfl) (by kernel_rfl) (by decide) (fun _ _ _ h => h) (Or.inl ⟨by rfl, fun w _ => ?_⟩) ?_; rotate_left; (go_simp; with_reducible rfl); simp only [Act.put, List.setIfInBounds_toArray, List.set_cons_zero, List.set_cons_succ]
                refine wpAnyK_load 43 (i := 8) (fuel := 1) rfl rfl (by kernel_rfl) (by kernel_rfl) (by kernel_rfl) (.inr (by decide)) (by decide) (fun _ _ _ h => h) rfl (fun w h => ex_load_at _ _ rfl b (off + k * 32 + q * 32) rfl (u8s y2.1) (by rw [u8s_length, y2.2]) (hcy2 (h.sl (some ⟨b, off, none⟩) l.length c))) ?_; simp only [Act.put, List.setIfInBounds_toArray, List.set_cons_zero, List.set_cons_succ]
                refine wpAnyK_load 44 (i := 9) (fuel := 0) rfl rfl (by kernel_rfl) (by kernel_rfl) (by kernel_rfl) (.inr (by decide)) (by decide) (fun _ _ _ h => h) rfl (fun w h => ex_neq 33 (.tmp 38) (.tmp 43) _ rfl x2.1 y2.1 rfl rfl x2.2 y2.2 true hB2) ?_; simp only [Act.put, List.setIfInBounds_toArray, List.set_cons_zero, List.set_cons_succ]
                refine wpAnyK_done (by kernel_rfl) ?_
                go_wp2_with (first
                  | (refine wl_at 50 rfl ?_; refine wl_reads rfl (ex_load_at _ _ rfl b (off + k * 32 + j * 32) rfl (u8s x2.1) (by rw [u8s_length, x2.2]) (hcx2 (h.sl (some ⟨b, off, none⟩) l.length c))) ?_)
                  | (refine wl_none rfl ?_; refine wl_runs rfl (ex_put_row (P := Try.prog) h (enc := idc) idc_length (by decide) idc_one 33 _ _ rfl b off kk rfl x2 rfl cur v5) ?_; clear h; rintro _ w ⟨rfl, h⟩; try dsimp only [Act.put]))
                refine ⟨⟨j + 1, m + 1, kk + 1, cur.set kk x2, by push_cast; rfl, by push_cast; rfl, by omega, by omega, Lib.hid (by have := Hm.out; omega), Lib.hid ?_, h.to⟩, ?_⟩
                · have hC := HC.out
                  have hm := Hm.out
                  have hq := Hq.out
                  obtain rfl : m = (k + q) + 1 := by omega
                  subst hq
                  have := hC.new i1 (by rw [show l[k + q + 1] = x2 from Hx2.out, Hy2.out]; exact Hne.out)
                  rw [show l[k + q + 1] = x2 from Hx2.out] at this
                  exact this
                · simp only [intOf]
                  omega
            · have hjz : j = r := by omega
              subst hjz
              have v1 : (kk : Int) ≤ (l.length : Int) := by omega
              have v2 : (0 : Int) ≤ (kk : Int) := by omega
              have v3 : (l.length : Int) ≤ (c : Int) := by omega
              have v4 : (kk : Int) ≤ (c : Int) := by omega
              have v5 : kk ≤ l.length := by omega
              have v6 : kk ≤ c := by omega
              have hkm := HC.out.kk (by omega)
              have hfr := HC.out.front
              have hml : m = l.length := by omega
              rw [hml] at hkm hfr
              have Hkm := Lib.hid (show (compM l).length = kk from hkm.symm)
              have Hfl := Lib.hid (show ∀ Z : List Value, (((cur.flatMap idc).take (kk * 32) ++ Z).take (kk * 32)) = (compM l).flatMap idc from fun Z => by
                have e1 : ((cur.flatMap idc).take (kk * 32)).length = kk * 32 := by rw [List.length_take, length_flatMap idc_length]; omega
                rw [List.take_left' e1, flat_take idc_length cur kk (by omega), hfr, compM])
              clear hkm hfr hml hmm hcl hfit
              go_wp2_with (first
                | (refine wl_none rfl ?_; refine wl_runs rfl (ex_clear h _ _ rfl b off kk (c - kk) v5 rfl) ?_; clear h; rintro _ w ⟨Z, hZ, h⟩))
              go_ret
              rw [Hkm.out]
              have h3 := h.takeRow (some ⟨b, off, none⟩) kk v5
              rw [Hfl.out Z] at h3
              exact ⟨c, rfl, h3⟩
        · have hB : (x.1 == y.1) = false := by
            simp only [beq_eq_false_iff_ne, ne_eq]
            exact fun e => hxy (Subtype.ext e)
          have Hxy := Lib.hid hxy
          clear hxy
          go_upto_region 6 with (fail)
          refine wp_region_K 10 (fun w' => St _ _ w' _) (by kernel_rfl) h.drew ?_; replace h := h.drew
          refine wpAnyK_pure 16 (v := ?_) (i := 0) (fuel := 9) rfl rfl (by kernel_rfl) (by kernel_rfl) (by kernel_rfl) (by decide) (fun _ _ _ h => h) (Or.inl ⟨by rfl, fun w _ => ?_⟩) ?_; rotate_left; (go_simp; with_reducible rfl); simp only [Act.put, List.setIfInBounds_toArray, List.set_cons_zero, List.set_cons_succ]
          refine wpAnyK_pure 17 (v := ?_) (i := 1) (fuel := 8) rfl rfl (by kernel_rfl) (by kernel_rfl) (by kernel_rfl) (by decide) (fun _ _ _ h => h) (Or.inl ⟨by rfl, fun w _ => ?_⟩) ?_; rotate_left; (go_simp; with_reducible rfl); simp only [Act.put, List.setIfInBounds_toArray, List.set_cons_zero, List.set_cons_succ]
          refine wpAnyK_pure 18 (v := ?_) (i := 2) (fuel := 7) rfl rfl (by kernel_rfl) (by kernel_rfl) (by kernel_rfl) (by decide) (fun _ _ _ h => h) (Or.inl ⟨by rfl, fun w _ => ?_⟩) ?_; rotate_left; (go_simp; with_reducible rfl); simp only [Act.put, List.setIfInBounds_toArray, List.set_cons_zero, List.set_cons_succ]
          refine wpAnyK_load 19 (i := 3) (fuel := 6) rfl rfl (by kernel_rfl) (by kernel_rfl) (by kernel_rfl) (.inr (by decide)) (by decide) (fun _ _ _ h => h) rfl (fun w h => ex_load_at _ _ rfl b (off + k * 32) rfl (u8s x.1) (by rw [u8s_length, x.2]) (hcx (h.sl (some ⟨b, off, none⟩) l.length c))) ?_; simp only [Act.put, List.setIfInBounds_toArray, List.set_cons_zero, List.set_cons_succ]
          refine wpAnyK_pure 20 (v := ?_) (i := 4) (fuel := 5) rfl rfl (by kernel_rfl) (by kernel_rfl) (by kernel_rfl) (by decide) (fun _ _ _ h => h) (Or.inl ⟨by rfl, fun w _ => ?_⟩) ?_; rotate_left; (go_simp; with_reducible rfl); simp only [Act.put, List.setIfInBounds_toArray, List.set_cons_zero, List.set_cons_succ]
          refine wpAnyK_pure 21 (v := ?_) (i := 5) (fuel := 4) rfl rfl (by kernel_rfl) (by kernel_rfl) (by kernel_rfl) (by decide) (fun _ _ _ h => h) (Or.inl ⟨by rfl, fun w _ => ?_⟩) ?_; rotate_left; (go_simp; with_reducible rfl); simp only [Act.put, List.setIfInBounds_toArray, List.set_cons_zero, List.set_cons_succ]
          refine wpAnyK_pure 22 (v := ?_) (i := 6) (fuel := 3) rfl rfl (by kernel_rfl) (by kernel_rfl) (by kernel_rfl) (by decide) (fun _ _ _ h => h) (Or.inl ⟨by rfl, fun w _ => ?_⟩) ?_; rotate_left; (go_simp; with_reducible rfl); simp only [Act.put, List.setIfInBounds_toArray, List.set_cons_zero, List.set_cons_succ]
          refine wpAnyK_pure 23 (v := ?_) (i := 7) (fuel := 2) rfl rfl (by kernel_rfl) (by kernel_rfl) (by kernel_rfl) (by decide) (fun _ _ _ h => h) (Or.inl ⟨by rfl, fun w _ => ?_⟩) ?_; rotate_left; (go_simp; with_reducible rfl); simp only [Act.put, List.setIfInBounds_toArray, List.set_cons_zero, List.set_cons_succ]
          refine wpAnyK_load 24 (i := 8) (fuel := 1) rfl rfl (by kernel_rfl) (by kernel_rfl) (by kernel_rfl) (.inr (by decide)) (by decide) (fun _ _ _ h => h) rfl (fun w h => ex_load_at _ _ rfl b (off + p * 32) rfl (u8s y.1) (by rw [u8s_length, y.2]) (hcy (h.sl (some ⟨b, off, none⟩) l.length c))) ?_; simp only [Act.put, List.setIfInBounds_toArray, List.set_cons_zero, List.set_cons_succ]
          refine wpAnyK_load 25 (i := 9) (fuel := 0) rfl rfl (by kernel_rfl) (by kernel_rfl) (by kernel_rfl) (.inr (by decide)) (by decide) (fun _ _ _ h => h) rfl (fun w h => ex_eq 33 (.tmp 19) (.tmp 24) _ rfl x.1 y.1 rfl rfl x.2 y.2 false hB) ?_; simp only [Act.put, List.setIfInBounds_toArray, List.set_cons_zero, List.set_cons_succ]
          refine wpAnyK_done (by kernel_rfl) ?_
          go_wp2
          refine ⟨⟨k + 1, by push_cast; rfl, by omega, by omega, Lib.hid (fun j h1 h3 => ?_), h.to⟩, ?_⟩
          · rcases Nat.lt_or_ge j k with h4 | h4
            · exact Hd.out j h1 h4
            · obtain rfl : j = k := by omega
              have hp := Hp.out
              rw [List.getElem?_eq_getElem hkn, show j - 1 = p by omega, List.getElem?_eq_getElem hpl, Hx.out, Hy.out]
              exact fun e => Hxy.out (Option.some.inj e)
          · simp only [intOf]
            omega
      · have hkz : k = l.length := by omega
        subst hkz
        have e : compM l = l := by rw [compM, compN_take (Nat.le_refl _) Hd.out, List.take_length]
        go_wp2
        go_ret
        rw [e]
        exact ⟨c, rfl, h⟩
end Go.Proofs.Ytionnlckjjojnaa
