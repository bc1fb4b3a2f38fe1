/- The reference's Split. -/
import Derived.Test.YtplcoielgencfaaCGoodRef
import Derived.Test.YtplcoielgencfaaCSplit
namespace Go.Proofs.Ytplcoielgencfaa
open Go.RowKit

theorem pcs_init {a l : List UInt8} {init : List (List UInt8)} {last : List UInt8} {i : Nat} (hi : i < a.length) (h : init ++ pcs last (a.drop i) = pcs l a) (hc : a[i] = 47) : (init ++ [last]) ++ pcs [] (a.drop (i + 1)) = pcs l a := by
  rw [← h, List.drop_eq_getElem_cons hi, pcs, if_pos hc]
  simp
theorem pcs_last {a l : List UInt8} {init : List (List UInt8)} {last : List UInt8} {i : Nat} (hi : i < a.length) (h : init ++ pcs last (a.drop i) = pcs l a) (hc : a[i] ≠ 47) : init ++ pcs (last ++ [a[i]]) (a.drop (i + 1)) = pcs l a := by
  rw [← h, List.drop_eq_getElem_cons hi, pcs, if_neg hc]

theorem pcs_bound : ∀ (a l : List UInt8), ∀ x ∈ pcs a l, x.length ≤ a.length + l.length
  | a, [], x, h => by
    rw [pcs, List.mem_singleton] at h
    simp [h]
  | a, c :: r, x, h => by
    rw [pcs] at h
    split at h
    · rcases List.mem_cons.1 h with h | h
      · simp [h]
      · have := pcs_bound [] r x h
        simp at this ⊢
        omega
    · have := pcs_bound (a ++ [c]) r x h
      simp at this ⊢
      omega

theorem all_take {α : Type} {l : List α} {p : α → Bool} {k : Nat} (hk : k < l.length) (h : (l.take k).all p = true) (hp : p l[k] = true) : (l.take (k + 1)).all p = true := by
  rw [List.take_succ_eq_append_getElem hk, List.all_append, h]
  simp [hp]

set_option maxRecDepth 100000 in
theorem split_ref {w : World} {l : List UInt8} (hl : l.length ≤ 1000000) :
    Calls Try.prog 13 #[.string (str l)] w fun e w' => ∃ A n c, e = .returned (.tuple #[.slice A n c, .int .i64 (splitM l).2]) ∧ Sl w' A n c 1 (strs (splitM l).1) ∧ Step (fun _ => False) w w' ∧ (∀ k, At A k → w.heap.size ≤ k) := by
  have hsz := str_size l
  have hda := str_toList l
  by_cases h0 : l = []
  · subst h0
    go_enter Try.func13, Try.ntmps13
    go_wp2
    go_ret2
    exact ⟨none, 0, 0, rfl, Sl.nil _ _, Step.refl _ _, fun k hk => (at_nil hk).elim⟩
  · have hne : l.isEmpty = false := by
      cases l with
      | nil => exact absurd rfl h0
      | cons => rfl
    go_enter Try.func13, Try.ntmps13
    go_wp2
    go_loopw [4, 5] (fun v i wr => ∃ (A : Option Addr) (m c k : Nat) (init : List (List UInt8)) (last : List UInt8), v = .slice A (m + 1) c ∧ i = .int .i64 k ∧ k ≤ l.length ∧ m ≤ k ∧ last.length ≤ k ∧ Hid (m = init.length) ∧ Hid (init ++ pcs last (l.drop k) = pcs [] l) ∧ Own wr 9 1 A (m + 1) c (strs (init ++ [last])) ∧ Step (fun _ => False) w wr ∧ (∀ j, At A j → w.heap.size ≤ j)) (fun _ i _ => l.length - (intOf i).toNat)
    case atStart => exact ⟨_, 0, 1, 0, [], [], rfl, rfl, Nat.zero_le _, Nat.le_refl _, Nat.le_refl _, Lib.hid rfl, Lib.hid rfl, own_one w 9 (.string (str [])), (Step.refl _ _).alloc _, fun j ⟨a, e, h⟩ => by cases e; exact Nat.le_of_eq h⟩
    case round =>
      obtain ⟨A, m, c, k, init, last, rfl, rfl, hk, hmk, hlast, Hm, Hp, hown, hS, hA⟩ := hrel
      by_cases hlt : k < l.length
      · obtain ⟨i0, hi0, hz0, hz1, hz2⟩ := info_parts string_parts
        by_cases hc : l[k] = 47
        · have hx : ((((str l)[k]'(by omega)).toNat : Int) == 47) = true := by rw [str_get, hc]; rfl
          go_wp2_with (at_builtin; refine wl_append _ rfl _ _ 25 rfl 9 i0 _ 1 16 Try.underlying25 hi0 hz0 hz1 hz2 rfl (by decide) A (m + 1) c (strs (init ++ [last])) rfl (hown.alloc _) _ 1 1 [strv []] rfl (sl_one _ _ _) (by simp [strv, Value.oneCell']) (by simp [maxLen]; omega) (by omega) ?_; intro A' c' w7 hown7 hS7 hat7)
          refine ⟨⟨A', m + 1, c', k + 1, init ++ [last], [], rfl, by go_num, by omega, by omega, Nat.zero_le _, Lib.hid (by rw [Hm.out]; simp), Lib.hid (pcs_init hlt Hp.out hc), ?_, ?_, ?_⟩, by simp only [intOf]; omega⟩
          · rw [show strs ((init ++ [last]) ++ [[]]) = strs (init ++ [last]) ++ [strv []] by simp [strs]]
            exact hown7
          · exact (hS.alloc _).trans hS7 (fun i hi h => by have := hA i h; omega)
          · intro j hj
            have := hS.size
            rcases hat7 j hj with h | h
            · exact hA j h
            · simp at h; omega
        · have hx : ((((str l)[k]'(by omega)).toNat : Int) == 47) = false := by
            rw [str_get, beq_eq_false_iff_ne]
            intro e
            exact hc (UInt8.toNat_inj.1 (by show _ = 47; omega))
          obtain ⟨b, off, rfl, u, hu, hcell⟩ := hown.sl.at_ (k := m) (by omega)
          have hu' : u = .string (str last) := by
            have hm := Hm.out
            rw [strs_get _ (by simp; omega), Option.some.injEq] at hu
            rw [← hu, strv]
            congr 2
            simp [hm]
          subst hu'
          clear hu
          have hext := str_extract l k (k + 1)
          have happ := str_append last ((l.take (k + 1)).drop k)
          have hfr : wr.frozen? ⟨b, off + m, none⟩ = false := by
            rcases hown.form with ⟨h, _⟩ | ⟨g, cur, h, hg, _⟩
            · cases h
            · injection h with h; injection h with h1 h2; subst h1; exact hg.frozen _
          have h7 := str_size last
          have h8 : (str (List.drop k (List.take (k + 1) l))).size = 1 := by rw [str_size]; simp; omega
          go_wp2
          go_region
          go_wp2
          have he : (l.take (k + 1)).drop k = [l[k]] := by
            rw [List.take_succ_eq_append_getElem hlt, List.drop_append_of_le_length (by simp; omega), List.drop_eq_nil_of_le (by simp; omega)]
            rfl
          rw [he]
          have hbw : w.heap.size ≤ b := hA b ⟨_, rfl, rfl⟩
          refine ⟨⟨_, m, c, k + 1, init, last ++ [l[k]], rfl, by go_num, by omega, by omega, by simp; omega, Hm, Lib.hid (pcs_last hlt Hp.out hc), ?_, ?_, hA⟩, by simp only [intOf]; omega⟩
          · have := (hown.set_ (i := m) (by omega) (.string (str (last ++ [l[k]])))).drew
            rwa [show (strs (init ++ [last])).set m (.string (str (last ++ [l[k]]))) = strs (init ++ [last ++ [l[k]]]) by
              have hm := Hm.out
              simp [strs, hm, strv]] at this
          · exact (hS.setCell (p := ⟨b, off + m, none⟩) (.inr hbw) _).drew
      · obtain rfl : k = l.length := by omega
        have hnames : init ++ [last] = pcs [] l := by
          have := Hp.out
          rwa [List.drop_length, pcs] at this
        have hlen : m + 1 = (pcs [] l).length := by rw [← hnames, Hm.out]; simp
        rw [hnames] at hown
        by_cases h16 : 16 < m + 1
        · go_wp2
          go_ret2
          rw [show splitM l = ([], 101) by rw [splitM, if_neg h0, if_pos (by omega)]]
          exact ⟨none, 0, 0, rfl, Sl.nil _ _, hS, fun k hk => (at_nil hk).elim⟩
        · have Hl := Lib.hid hlen
          clear hlen hnames Hm Hp
          go_wp2
          go_loop [42] (fun i => ∃ j : Nat, j ≤ m + 1 ∧ i = .int .i64 j ∧ ((pcs [] l).take j).all goodM = true) (fun i => m + 1 - (intOf i).toNat)
          case atStart => exact ⟨0, Nat.zero_le _, rfl, rfl⟩
          case round =>
            obtain ⟨j, hj, rfl, hall⟩ := hrel
            have hL := Hl.out
            by_cases hlt2 : j < m + 1
            · have hjl : j < (pcs [] l).length := by omega
              clear hL
              obtain ⟨b, off, rfl, u, hu, hcell⟩ := hown.sl.at_ (k := j) hlt2
              rw [strs_get _ hjl, Option.some.injEq] at hu
              subst hu
              rw [strv] at hcell
              have hb := pcs_bound [] l _ (List.getElem_mem hjl)
              by_cases hg : goodM (pcs [] l)[j] = true
              · go_wp2_with (go_at_call 9; refine (good_ref (by simp at hb; omega)).mono ?_; rintro e w3 ⟨rfl, rfl⟩)
                exact ⟨⟨j + 1, by omega, by go_num, all_take hjl hall hg⟩, by simp only [intOf]; omega⟩
              · have hg' : goodM (pcs [] l)[j] = false := by simpa using hg
                go_wp2_with (go_at_call 9; refine (good_ref (by simp at hb; omega)).mono ?_; rintro e w3 ⟨rfl, rfl⟩)
                go_ret2
                rw [show splitM l = ([], 100) by
                  have hL := Hl.out
                  rw [splitM, if_neg h0, if_neg (by omega), if_neg (fun h => hg (List.all_eq_true.1 h _ (List.getElem_mem hjl)))]]
                exact ⟨none, 0, 0, rfl, Sl.nil _ _, hS, fun k hk => (at_nil hk).elim⟩
            · rw [List.take_of_length_le (by omega)] at hall
              have e1 : splitM l = (pcs [] l, 0) := by rw [splitM, if_neg h0, if_neg (by omega), if_pos hall]
              clear hL
              go_wp2
              go_ret2
              exact ⟨A, m + 1, c, rfl, hown.sl, hS, hA⟩
end Go.Proofs.Ytplcoielgencfaa
