/- Entries put in: the reference. -/
import Derived.Test.YtnokgejmlpmgfaaCDirWithout
import Derived.Test.YtnokgejmlpmgfaaCOrder
namespace Go.Proofs.Ytnokgejmlpmgfaa
open Go.RowKit
set_option linter.unusedVariables false
set_option linter.unusedSimpArgs false

/-- One entry more: what was put together, and whether the new one is among it. -/
def stepR (e : En) (s : List En × Bool) (x : En) : List En × Bool :=
  if (x.name == e.name || x.blind.1 == e.blind.1) = true then s
  else if (!s.2 && lessI e.blind x.blind) = true then (s.1 ++ [e] ++ [x], true) else (s.1 ++ [x], s.2)
def withR (l : List En) (e : En) : List En × Bool := l.foldl (stepR e) ([], false)
theorem withR_zero (l : List En) (e : En) : withR (l.take 0) e = ([], false) := by simp [withR]
theorem withR_next {l : List En} {k : Nat} {x e : En} (hk : k < l.length) (hx : l[k] = x) : withR (l.take (k + 1)) e = stepR e (withR (l.take k) e) x := by
  unfold withR
  rw [List.take_succ_eq_append_getElem hk, hx, List.foldl_append]
  rfl
theorem withR_len (l : List En) (e : En) : (withR l e).1.length ≤ 2 * l.length := by
  unfold withR
  suffices h : ∀ (l : List En) (s : List En × Bool), (l.foldl (stepR e) s).1.length ≤ s.1.length + 2 * l.length by simpa using h l ([], false)
  intro l
  induction l with
  | nil => intro s; simp
  | cons x l ih =>
    intro s
    rw [List.foldl_cons]
    have h1 := ih (stepR e s x)
    have h2 : (stepR e s x).1.length ≤ s.1.length + 2 := by
      unfold stepR
      split
      · omega
      · split <;> simp
    rw [List.length_cons]
    omega
theorem stepR_done (e : En) : ∀ (l : List En) (a : List En), l.foldl (stepR e) (a, true) = (a ++ keepE l e, true)
  | [], a => by simp [keepE]
  | x :: l, a => by
    rw [List.foldl_cons]
    by_cases h : (x.name == e.name || x.blind.1 == e.blind.1) = true
    · have h2 : keepE (x :: l) e = keepE l e := by
        unfold keepE
        rw [List.filter_cons, if_neg]
        simp only [Bool.or_eq_true] at h
        rcases h with h | h <;> simp [h]
      rw [h2, show stepR e (a, true) x = (a, true) by rw [stepR, if_pos h]]
      exact stepR_done e l a
    · have h2 : keepE (x :: l) e = x :: keepE l e := by
        unfold keepE
        rw [List.filter_cons, if_pos]
        simp only [Bool.or_eq_true, not_or, Bool.not_eq_true] at h
        simp [h.1, h.2]
      rw [h2, show stepR e (a, true) x = (a ++ [x], true) by rw [stepR, if_neg h, if_neg (by simp)]]
      rw [stepR_done e l (a ++ [x])]
      simp
theorem stepR_wait (e : En) : ∀ (l : List En) (a : List En), (let s := l.foldl (stepR e) (a, false); if s.2 = true then s.1 else s.1 ++ [e]) = a ++ (keepE l e).take (atE (keepE l e) e) ++ [e] ++ (keepE l e).drop (atE (keepE l e) e)
  | [], a => by simp [keepE, atE]
  | x :: l, a => by
    rw [List.foldl_cons]
    by_cases h : (x.name == e.name || x.blind.1 == e.blind.1) = true
    · have h2 : keepE (x :: l) e = keepE l e := by
        unfold keepE
        rw [List.filter_cons, if_neg]
        simp only [Bool.or_eq_true] at h
        rcases h with h | h <;> simp [h]
      rw [h2, show stepR e (a, false) x = (a, false) by rw [stepR, if_pos h]]
      exact stepR_wait e l a
    · have hne := h
      simp only [Bool.or_eq_true, not_or, Bool.not_eq_true] at hne
      have h2 : keepE (x :: l) e = x :: keepE l e := by
        unfold keepE
        rw [List.filter_cons, if_pos]
        simp [hne.1, hne.2]
      have hb : x.blind ≠ e.blind := fun hb => by
        have := hne.2
        rw [hb] at this
        simp at this
      rw [h2, atE_cons]
      cases hl : lessI e.blind x.blind with
      | true =>
        have hx : lessI x.blind e.blind = false := lessI_asymm hl
        rw [show stepR e (a, false) x = (a ++ [e] ++ [x], true) by rw [stepR, if_neg h, if_pos (by simp [hl])], stepR_done, hx]
        simp
      | false =>
        have hx : lessI x.blind e.blind = true := by
          cases h9 : lessI x.blind e.blind with
          | true => rfl
          | false => exact absurd (lessI_total h9 hl) hb
        rw [show stepR e (a, false) x = (a ++ [x], false) by rw [stepR, if_neg h, if_neg (by simp [hl])], hx]
        have h3 := stepR_wait e l (a ++ [x])
        simp only at h3 ⊢
        rw [h3]
        simp
theorem withR_eq (l : List En) (e : En) : (if (withR l e).2 = true then (withR l e).1 else (withR l e).1 ++ [e]) = withM l e := by
  have h := stepR_wait e l []
  simp only [List.nil_append] at h
  exact h
set_option maxRecDepth 100000 in
set_option maxHeartbeats 4000000 in
theorem with_ref {S : Nat → Prop} {w0 w : World} {L : List Ent} {A : Option Addr} {c : Nat} {l : List En} {e : En} (h : St S w0 w L) [ka : HasSl L A l.length c 100 (l.flatMap enK)] (hl : l.length ≤ 1000) :
    Calls Try.prog 44 #[.slice A l.length c, .agg (enK e).toArray] w fun r w' => ∃ A' c', r = .returned (.slice A' (withM l e).length c') ∧ St S w0 w' (eOwn 87 100 A' (withM l e).length c' ((withM l e).flatMap enK) :: L) := by
  have HW := Lib.hid (withR_eq l e)
  obtain ⟨W, hW⟩ : ∃ W, withM l e = W := ⟨_, rfl⟩
  rw [hW] at HW ⊢
  have Hlen := fun k => withR_len (l.take k) e
  obtain ⟨eb, en, ek, ei, ey, er, ee⟩ := e
  obtain ⟨K, hK⟩ : ∃ K : List En → List En × Bool, (fun m => withR m ⟨eb, en, ek, ei, ey, er, ee⟩) = K := ⟨_, rfl⟩
  have HK := Lib.hid (fun m => congrFun hK m : ∀ m, withR m ⟨eb, en, ek, ei, ey, er, ee⟩ = K m)
  have q1 : Row (u8s eb.1) 32 := Row.u32 eb
  have q2 : Row (u8s ei.1) 32 := Row.u32 ei
  have q3 : Row (u8s ey.1) 32 := Row.u32 ey
  have honeE := (enK_row ⟨eb, en, ek, ei, ey, er, ee⟩).one
  have HL : Hid (∀ k, (K (l.take k)).1.length ≤ 2000) := Lib.hid fun k => by
    have h1 := Hlen k
    rw [HK.out] at h1
    have h2 : (l.take k).length ≤ l.length := List.length_take_le' k l
    omega
  clear hK hW Hlen
  go_enter Try.func44, Try.ntmps44
  go_wp2_with (first
    | (refine wl_at 3 rfl ?_; refine wl_runs rfl (ex_box h 87 _ rfl (enK ⟨eb, en, ek, ei, ey, er, ee⟩) rfl) ?_; clear h; rintro _ w ⟨ge, rfl, h⟩))
  replace h := h.nilRow 87 100
  go_loopw [5, 6, 11] (fun v d iv wr => ∃ (k : Nat) (A1 : Option Addr) (c1 : Nat) (acc : List En) (D : Bool), v = .slice A1 acc.length c1 ∧ d = .bool D ∧ iv = .int .i64 (k : Int) ∧ k ≤ l.length ∧ Hid (K (l.take k) = (acc, D)) ∧ St S w0 wr (eOwn 87 100 A1 acc.length c1 (acc.flatMap enK) :: eBlk ge 87 (enK ⟨eb, en, ek, ei, ey, er, ee⟩) :: L)) (fun _ _ iv _ => l.length - (intOf iv).toNat)
  case atStart => exact ⟨0, none, 0, [], false, rfl, rfl, rfl, Nat.zero_le _, Lib.hid (by rw [← HK.out]; exact withR_zero _ _), h⟩
  case round =>
    clear h
    obtain ⟨k, A1, c1, acc, D, rfl, rfl, rfl, hk, Hacc, h⟩ := hrel
    have hal : acc.length ≤ 2000 := by
      have := HL.out k
      rwa [Hacc.out] at this
    by_cases hkl : k < l.length
    · have f2 : (k : Int) < (l.length : Int) := by omega
      have t1 : ((k : Int)).toNat = k := by omega
      obtain ⟨x, hx⟩ : ∃ x, l[k] = x := ⟨_, rfl⟩
      obtain ⟨b, off, rfl, _⟩ := (h.sl A l.length c).pos (by omega)
      have hcs : ∀ w, Sl w (some ⟨b, off, none⟩) l.length c 100 (l.flatMap enK) → Cells w b (off + k * 100) (enK x) := fun w hs => by rw [← hx]; exact hs.elemAt enK_length hkl (by omega)
      have Hcs := Lib.hid hcs
      have hnx := withR_next (e := ⟨eb, en, ek, ei, ey, er, ee⟩) hkl hx
      rw [HK.out, HK.out, Hacc.out] at hnx
      simp only [stepR] at hnx
      obtain ⟨B, hB⟩ : ∃ B, (x.name == en) = B := ⟨_, rfl⟩
      obtain ⟨B2, hB2⟩ : ∃ B2, (x.blind.1 == eb.1) = B2 := ⟨_, rfl⟩
      obtain ⟨R, hR⟩ : ∃ R, lessI eb x.blind = R := ⟨_, rfl⟩
      rw [hB, hB2, hR] at hnx
      have hst : ((str x.name).toList == (str en).toList) = B := by rw [str_toList, str_toList]; exact hB
      have HR : Hid (lessM eb.1 x.blind.1 = R) := Lib.hid hR
      have hone := (enK_row x).one
      have Hlen1 := Lib.hid (show (acc ++ [x]).length = acc.length + 1 by simp)
      have Hflat1 := Lib.hid (show (acc ++ [x]).flatMap enK = acc.flatMap enK ++ enK x by simp)
      have Hlen2 := Lib.hid (show (acc ++ [(⟨eb, en, ek, ei, ey, er, ee⟩ : En)] ++ [x]).length = acc.length + 1 + 1 by simp)
      have Hflat2 := Lib.hid (show (acc ++ [(⟨eb, en, ek, ei, ey, er, ee⟩ : En)] ++ [x]).flatMap enK = acc.flatMap enK ++ enK ⟨eb, en, ek, ei, ey, er, ee⟩ ++ enK x by simp)
      obtain ⟨xb, xn, xk, xi, xy, xr, xe⟩ := x
      simp only at hst hB2 HR
      have r1 : Row (u8s xb.1) 32 := Row.u32 xb
      have r2 : Row (u8s xi.1) 32 := Row.u32 xi
      have r3 : Row (u8s xy.1) 32 := Row.u32 xy
      clear hcs hx hB hR
      cases B with
      | true =>
        have Hnx := Lib.hid (by simpa using hnx : K (l.take (k + 1)) = (acc, D))
        clear hnx hB2
        go_wp2_with (first | (refine wl_at 14 rfl ?_; refine wl_reads rfl (ex_load_at _ _ rfl b (off + k * 100) rfl (enK ⟨xb, xn, xk, xi, xy, xr, xe⟩) (enK_length _) (Hcs.out _ (h.sl (some ⟨b, off, none⟩) l.length c))) ?_) | (refine wl_at 8 rfl ?_; refine wl_runs rfl (ex_alloc h 87 rfl) ?_; clear h; rintro _ w ⟨g, rfl, h⟩) | (refine wl_none rfl ?_; refine wl_runs rfl (ex_store h _ _ _ rfl _ _ rfl (enK ⟨xb, xn, xk, xi, xy, xr, xe⟩) rfl) ?_; clear h; rintro _ w ⟨rfl, h⟩; try dsimp only [Act.put]) | (refine wl_at 16 rfl ?_; refine wl_reads rfl (ex_loadv h _ _ rfl _ _ rfl) ?_) | ((refine wl_at 18 rfl ?_; refine wl_reads rfl (ex_loadv h _ _ rfl _ _ rfl) ?_); go_wp2))
        refine ⟨⟨k + 1, A1, c1, acc, D, rfl, rfl, by push_cast; rfl, by omega, Hnx, h.to⟩, ?_⟩
        simp only [intOf]
        omega
      | false =>
        cases B2 with
        | true =>
          have Hnx := Lib.hid (by simpa using hnx : K (l.take (k + 1)) = (acc, D))
          clear hnx
          go_wp2_with (first | (refine wl_at 14 rfl ?_; refine wl_reads rfl (ex_load_at _ _ rfl b (off + k * 100) rfl (enK ⟨xb, xn, xk, xi, xy, xr, xe⟩) (enK_length _) (Hcs.out _ (h.sl (some ⟨b, off, none⟩) l.length c))) ?_) | (refine wl_at 8 rfl ?_; refine wl_runs rfl (ex_alloc h 87 rfl) ?_; clear h; rintro _ w ⟨g, rfl, h⟩) | (refine wl_none rfl ?_; refine wl_runs rfl (ex_store h _ _ _ rfl _ _ rfl (enK ⟨xb, xn, xk, xi, xy, xr, xe⟩) rfl) ?_; clear h; rintro _ w ⟨rfl, h⟩; try dsimp only [Act.put]) | (refine wl_at 16 rfl ?_; refine wl_reads rfl (ex_loadv h _ _ rfl _ _ rfl) ?_) | (refine wl_at 18 rfl ?_; refine wl_reads rfl (ex_loadv h _ _ rfl _ _ rfl) ?_) | (refine wl_at 22 rfl ?_; refine wl_reads rfl (ex_loadv h _ _ rfl _ _ rfl) ?_) | (refine wl_at 24 rfl ?_; refine wl_reads rfl (ex_loadv h _ _ rfl _ _ rfl) ?_) | (refine wl_at 25 rfl ?_; refine wl_reads rfl (ex_eq _ _ _ _ rfl xb.1 eb.1 rfl rfl xb.2 eb.2 true hB2) ?_; go_wp2))
          refine ⟨⟨k + 1, A1, c1, acc, D, rfl, rfl, by push_cast; rfl, by omega, Hnx, h.to⟩, ?_⟩
          simp only [intOf]
          omega
        | false =>
          cases D with
          | true =>
            have Hnx := Lib.hid (by simpa using hnx : K (l.take (k + 1)) = (acc ++ [(⟨xb, xn, xk, xi, xy, xr, xe⟩ : En)], true))
            obtain ⟨AX, hAX⟩ : ∃ AX, A1 = AX := ⟨_, rfl⟩
            subst hAX
            clear hnx
            go_upto_region 7 with (first | (refine wl_at 14 rfl ?_; refine wl_reads rfl (ex_load_at _ _ rfl b (off + k * 100) rfl (enK ⟨xb, xn, xk, xi, xy, xr, xe⟩) (enK_length _) (Hcs.out _ (h.sl (some ⟨b, off, none⟩) l.length c))) ?_) | (refine wl_at 8 rfl ?_; refine wl_runs rfl (ex_alloc h 87 rfl) ?_; clear h; rintro _ w ⟨g, rfl, h⟩) | (refine wl_none rfl ?_; refine wl_runs rfl (ex_store h _ _ _ rfl _ _ rfl (enK ⟨xb, xn, xk, xi, xy, xr, xe⟩) rfl) ?_; clear h; rintro _ w ⟨rfl, h⟩; try dsimp only [Act.put]) | (refine wl_at 16 rfl ?_; refine wl_reads rfl (ex_loadv h _ _ rfl _ _ rfl) ?_) | (refine wl_at 18 rfl ?_; refine wl_reads rfl (ex_loadv h _ _ rfl _ _ rfl) ?_) | (refine wl_at 22 rfl ?_; refine wl_reads rfl (ex_loadv h _ _ rfl _ _ rfl) ?_) | (refine wl_at 24 rfl ?_; refine wl_reads rfl (ex_loadv h _ _ rfl _ _ rfl) ?_) | (refine wl_at 25 rfl ?_; refine wl_reads rfl (ex_eq _ _ _ _ rfl xb.1 eb.1 rfl rfl xb.2 eb.2 false hB2) ?_))
            go_upto_region 10 with fail
            go_wp2_with (first | (refine wl_at 41 rfl ?_; refine wl_reads rfl (ex_loadv h _ _ rfl _ _ rfl) ?_) | (refine wl_at 42 rfl ?_; refine wl_runs rfl (ex_slice1 h _ _ rfl (enK ⟨xb, xn, xk, xi, xy, xr, xe⟩) rfl) ?_; clear h; rintro _ w ⟨gq, rfl, h⟩) | (refine wl_at 43 rfl ?_; refine wl_runs rfl (ex_append h _ _ _ rfl A1 rfl (some ⟨gq, 0, none⟩) 1 1 rfl (h.slBox gq) hone (by simp [maxLen]; omega) (by omega)) ?_; clear h; rintro _ w ⟨A3, c3, rfl, h⟩))
            refine ⟨⟨k + 1, A3, c3, _, true, by rw [Hlen1.out], rfl, by push_cast; rfl, by omega, Hnx, by rw [Hflat1.out, Hlen1.out]; exact h.to⟩, ?_⟩
            simp only [intOf]
            omega
          | false =>
            cases R with
            | true =>
              have Hnx := Lib.hid (by simpa using hnx : K (l.take (k + 1)) = (acc ++ [(⟨eb, en, ek, ei, ey, er, ee⟩ : En)] ++ [(⟨xb, xn, xk, xi, xy, xr, xe⟩ : En)], true))
              clear hnx
              go_wp2_with (first | (refine wl_at 14 rfl ?_; refine wl_reads rfl (ex_load_at _ _ rfl b (off + k * 100) rfl (enK ⟨xb, xn, xk, xi, xy, xr, xe⟩) (enK_length _) (Hcs.out _ (h.sl (some ⟨b, off, none⟩) l.length c))) ?_) | (refine wl_at 8 rfl ?_; refine wl_runs rfl (ex_alloc h 87 rfl) ?_; clear h; rintro _ w ⟨g, rfl, h⟩) | (refine wl_none rfl ?_; refine wl_runs rfl (ex_store h _ _ _ rfl _ _ rfl (enK ⟨xb, xn, xk, xi, xy, xr, xe⟩) rfl) ?_; clear h; rintro _ w ⟨rfl, h⟩; try dsimp only [Act.put]) | (refine wl_at 16 rfl ?_; refine wl_reads rfl (ex_loadv h _ _ rfl _ _ rfl) ?_) | (refine wl_at 18 rfl ?_; refine wl_reads rfl (ex_loadv h _ _ rfl _ _ rfl) ?_) | (refine wl_at 22 rfl ?_; refine wl_reads rfl (ex_loadv h _ _ rfl _ _ rfl) ?_) | (refine wl_at 24 rfl ?_; refine wl_reads rfl (ex_loadv h _ _ rfl _ _ rfl) ?_) | (refine wl_at 25 rfl ?_; refine wl_reads rfl (ex_eq _ _ _ _ rfl xb.1 eb.1 rfl rfl xb.2 eb.2 false hB2) ?_) | (refine wl_at 31 rfl ?_; refine wl_reads rfl (ex_loadv h _ _ rfl _ _ rfl) ?_) | (refine wl_at 33 rfl ?_; refine wl_reads rfl (ex_loadv h _ _ rfl _ _ rfl) ?_) | (go_at_call 61; refine (less_ref (a := eb) (b := xb)).mono ?_; rw [HR.out]; rintro r w ⟨rfl, hs⟩; replace h := h.quiet hs; clear hs) | (refine wl_at 37 rfl ?_; refine wl_reads rfl (ex_loadv h _ _ rfl _ _ rfl) ?_) | (refine wl_at 38 rfl ?_; refine wl_runs rfl (ex_slice1 h _ _ rfl (enK ⟨eb, en, ek, ei, ey, er, ee⟩) rfl) ?_; clear h; rintro _ w ⟨gq, rfl, h⟩) | (refine wl_at 39 rfl ?_; refine wl_runs rfl (ex_append h _ _ _ rfl A1 rfl (some ⟨gq, 0, none⟩) 1 1 rfl (h.slBox gq) honeE (by simp [maxLen]; omega) (by omega)) ?_; clear h; rintro _ w ⟨A2, c2, rfl, h⟩) | (refine wl_at 41 rfl ?_; refine wl_reads rfl (ex_loadv h _ _ rfl _ _ rfl) ?_) | (refine wl_at 42 rfl ?_; refine wl_runs rfl (ex_slice1 h _ _ rfl (enK ⟨xb, xn, xk, xi, xy, xr, xe⟩) rfl) ?_; clear h; rintro _ w ⟨gp, rfl, h⟩) | (refine wl_at 43 rfl ?_; refine wl_runs rfl (ex_append h _ _ _ rfl A2 rfl (some ⟨gp, 0, none⟩) 1 1 rfl (h.slBox gp) hone (by simp [maxLen]; omega) (by omega)) ?_; clear h; rintro _ w ⟨A3, c3, rfl, h⟩))
              refine ⟨⟨k + 1, A3, c3, _, true, by rw [Hlen2.out], rfl, by push_cast; rfl, by omega, Hnx, by rw [Hflat2.out, Hlen2.out]; exact h.to⟩, ?_⟩
              simp only [intOf]
              omega
            | false =>
              have Hnx := Lib.hid (by simpa using hnx : K (l.take (k + 1)) = (acc ++ [(⟨xb, xn, xk, xi, xy, xr, xe⟩ : En)], false))
              clear hnx
              go_wp2_with (first | (refine wl_at 14 rfl ?_; refine wl_reads rfl (ex_load_at _ _ rfl b (off + k * 100) rfl (enK ⟨xb, xn, xk, xi, xy, xr, xe⟩) (enK_length _) (Hcs.out _ (h.sl (some ⟨b, off, none⟩) l.length c))) ?_) | (refine wl_at 8 rfl ?_; refine wl_runs rfl (ex_alloc h 87 rfl) ?_; clear h; rintro _ w ⟨g, rfl, h⟩) | (refine wl_none rfl ?_; refine wl_runs rfl (ex_store h _ _ _ rfl _ _ rfl (enK ⟨xb, xn, xk, xi, xy, xr, xe⟩) rfl) ?_; clear h; rintro _ w ⟨rfl, h⟩; try dsimp only [Act.put]) | (refine wl_at 16 rfl ?_; refine wl_reads rfl (ex_loadv h _ _ rfl _ _ rfl) ?_) | (refine wl_at 18 rfl ?_; refine wl_reads rfl (ex_loadv h _ _ rfl _ _ rfl) ?_) | (refine wl_at 22 rfl ?_; refine wl_reads rfl (ex_loadv h _ _ rfl _ _ rfl) ?_) | (refine wl_at 24 rfl ?_; refine wl_reads rfl (ex_loadv h _ _ rfl _ _ rfl) ?_) | (refine wl_at 25 rfl ?_; refine wl_reads rfl (ex_eq _ _ _ _ rfl xb.1 eb.1 rfl rfl xb.2 eb.2 false hB2) ?_) | (refine wl_at 31 rfl ?_; refine wl_reads rfl (ex_loadv h _ _ rfl _ _ rfl) ?_) | (refine wl_at 33 rfl ?_; refine wl_reads rfl (ex_loadv h _ _ rfl _ _ rfl) ?_) | (go_at_call 61; refine (less_ref (a := eb) (b := xb)).mono ?_; rw [HR.out]; rintro r w ⟨rfl, hs⟩; replace h := h.quiet hs; clear hs) | (refine wl_at 41 rfl ?_; refine wl_reads rfl (ex_loadv h _ _ rfl _ _ rfl) ?_) | (refine wl_at 42 rfl ?_; refine wl_runs rfl (ex_slice1 h _ _ rfl (enK ⟨xb, xn, xk, xi, xy, xr, xe⟩) rfl) ?_; clear h; rintro _ w ⟨gp, rfl, h⟩) | (refine wl_at 43 rfl ?_; refine wl_runs rfl (ex_append h _ _ _ rfl A1 rfl (some ⟨gp, 0, none⟩) 1 1 rfl (h.slBox gp) hone (by simp [maxLen]; omega) (by omega)) ?_; clear h; rintro _ w ⟨A3, c3, rfl, h⟩))
              refine ⟨⟨k + 1, A3, c3, _, false, by rw [Hlen1.out], rfl, by push_cast; rfl, by omega, Hnx, by rw [Hflat1.out, Hlen1.out]; exact h.to⟩, ?_⟩
              simp only [intOf]
              omega
    · obtain rfl : k = l.length := by omega
      have hkk : ¬ ((l.length : Int) < (l.length : Int)) := by omega
      have hfin := Hacc.out
      rw [List.take_length] at hfin
      have hW := HW.out
      rw [HK.out, hfin] at hW
      simp only at hW
      clear hkl hfin
      cases D with
      | true =>
        have Hfin := Lib.hid (by simpa using hW : acc = W)
        clear hW
        go_wp2
        go_ret
        rw [← Hfin.out]
        exact ⟨A1, c1, rfl, h.to⟩
      | false =>
        have Hfin := Lib.hid (by simpa using hW : acc ++ [(⟨eb, en, ek, ei, ey, er, ee⟩ : En)] = W)
        have Hlen1 := Lib.hid (show (acc ++ [(⟨eb, en, ek, ei, ey, er, ee⟩ : En)]).length = acc.length + 1 by simp)
        have Hflat1 := Lib.hid (show (acc ++ [(⟨eb, en, ek, ei, ey, er, ee⟩ : En)]).flatMap enK = acc.flatMap enK ++ enK ⟨eb, en, ek, ei, ey, er, ee⟩ by simp)
        clear hW
        go_wp2_with (first | (refine wl_at 48 rfl ?_; refine wl_reads rfl (ex_loadv h _ _ rfl _ _ rfl) ?_) | (refine wl_at 49 rfl ?_; refine wl_runs rfl (ex_slice1 h _ _ rfl (enK ⟨eb, en, ek, ei, ey, er, ee⟩) rfl) ?_; clear h; rintro _ w ⟨gq, rfl, h⟩) | (refine wl_at 50 rfl ?_; refine wl_runs rfl (ex_append h _ _ _ rfl A1 rfl (some ⟨gq, 0, none⟩) 1 1 rfl (h.slBox gq) honeE (by simp [maxLen]; omega) (by omega)) ?_; clear h; rintro _ w ⟨A3, c3, rfl, h⟩))
        go_ret
        rw [← Hfin.out, Hflat1.out, Hlen1.out]
        exact ⟨A3, c3, rfl, h.to⟩
end Go.Proofs.Ytnokgejmlpmgfaa
