/- Names joined: route.Join and the reference's Join answer alike. -/
import Derived.Test.YtplcoielgencfaaProg
import Derived.Test.YtplcoielgencfaaCSameNames
namespace Go.Proofs.Ytplcoielgencfaa
open Go.RowKit

/-- Names with a stroke between. -/
def joinM : List (List UInt8) → List UInt8
  | [] => []
  | [x] => x
  | x :: y :: l => x ++ 47 :: joinM (y :: l)

theorem joinM_snoc : ∀ (l : List (List UInt8)) (x : List UInt8), l ≠ [] → joinM (l ++ [x]) = joinM l ++ 47 :: x
  | [], _, h => absurd rfl h
  | [y], x, _ => by simp [joinM]
  | y :: z :: l, x, _ => by
    show y ++ 47 :: joinM (z :: l ++ [x]) = (y ++ 47 :: joinM (z :: l)) ++ 47 :: x
    rw [joinM_snoc (z :: l) x (by simp)]
    simp

theorem joinM_take {l : List (List UInt8)} {k : Nat} (hk : k < l.length) : joinM (l.take (k + 1)) = if k = 0 then l[k] else joinM (l.take k) ++ 47 :: l[k] := by
  rw [List.take_succ_eq_append_getElem hk]
  split
  · rename_i h
    subst h
    rfl
  · rename_i h
    exact joinM_snoc _ _ (fun e => by have := congrArg List.length e; rw [List.length_take, List.length_nil] at this; omega)

theorem joinM_bound {l : List (List UInt8)} {b : Nat} (h : ∀ x ∈ l, x.length ≤ b) : (joinM l).length ≤ l.length * (b + 1) := by
  induction l using joinM.induct with
  | case1 => simp [joinM]
  | case2 x => have := h x (by simp); simp [joinM]; omega
  | case3 x y l ih =>
    have h1 := h x (by simp)
    have h2 := ih (fun z hz => h z (by simp at hz ⊢; exact .inr hz))
    simp only [joinM, List.length_append, List.length_cons] at h2 ⊢
    rw [Nat.add_mul]
    omega

theorem byte_parts : (Try.prog.info? 5).map (fun i => (i.zero, i.size, i.bytes)) = some (some (.int .u8 0), 1, 1) := by kernel_rfl

set_option maxRecDepth 100000 in
theorem join_ref {w : World} {A : Option Addr} {n c : Nat} {l : List (List UInt8)} (hl : Sl w A n c 1 (strs l)) (hn : n ≤ 100) (hb : ∀ x ∈ l, x.length ≤ 1000) :
    Calls Try.prog 17 #[.slice A n c] w fun e w' => e = .returned (.string (str (joinM l))) ∧ w' = w := by
  have en := hl.n_strs
  have En := Lib.hid en
  clear en
  go_enter Try.func17, Try.ntmps17
  go_wp2
  go_loopw [3, 8] (fun v i wr => ∃ k : Nat, k ≤ n ∧ i = .int .i64 k ∧ v = .string (str (joinM (l.take k))) ∧ wr = w) (fun _ i _ => n - (intOf i).toNat)
  case atStart => exact ⟨0, Nat.zero_le _, rfl, rfl, rfl⟩
  case round =>
    obtain ⟨k, hk, rfl, rfl, rfl⟩ := hrel
    have hl' := En.out
    by_cases hlt : k < n
    · have hkl : k < l.length := by omega
      clear hl'
      obtain ⟨b, off, rfl, u, hu, hcell⟩ := hl.at_ (k := k) hlt
      rw [strs_get _ hkl, Option.some.injEq] at hu
      subst hu
      rw [strv] at hcell
      have hj := joinM_take hkl
      have h1 := str_size (joinM (l.take k))
      have h2 := str_size l[k]
      have h3 := str_append (joinM (l.take k)) [47]
      have h4 := str_append (joinM (l.take k) ++ [47]) l[k]
      have h5 := str_append (joinM (l.take k)) l[k]
      have h6 := str_size (joinM (l.take k) ++ [47])
      have h7 : (joinM (l.take k)).length ≤ 100 * 1001 := Nat.le_trans (joinM_bound (b := 1000) (fun x hx => hb x (List.mem_of_mem_take hx))) (by rw [List.length_take]; exact Nat.mul_le_mul (by omega) (Nat.le_refl _))
      have h8 : l[k].length ≤ 1000 := hb _ (List.getElem_mem hkl)
      clear hb
      go_wp2
      · rw [if_neg (by omega)] at hj
        refine ⟨⟨k + 1, by omega, by go_num, ?_, trivial⟩, by simp only [intOf]; omega⟩
        rw [hj, show (ByteArray.mk #[47]) = str [47] from rfl, h3, h4]
        simp
      · rw [if_pos (by omega)] at hj
        refine ⟨⟨k + 1, by omega, by go_num, ?_, trivial⟩, by simp only [intOf]; omega⟩
        have hx : joinM (l.take k) = [] := by rw [show k = 0 by omega]; rfl
        rw [hj, hx, List.nil_append]
    · go_wp2
      go_ret
      refine ⟨congrArg Ending.returned ?_, rfl⟩
      show Value.string (str (joinM (l.take k))) = _
      rw [List.take_of_length_le (by omega)]

set_option maxRecDepth 100000 in
theorem join_code {w : World} {A : Option Addr} {n c : Nat} {l : List (List UInt8)} (hl : Sl w A n c 1 (strs l)) (hn : n ≤ 100) (hb : ∀ x ∈ l, x.length ≤ 1000) :
    Calls Try.prog 16 #[.slice A n c] w fun e w' => e = .returned (.string (str (joinM l))) ∧ Step (fun _ => False) w w' := by
  have en := hl.n_strs
  have En := Lib.hid en
  clear en
  obtain ⟨i0, hi0, hz0, hz1, hz2⟩ := info_parts byte_parts
  go_enter Try.func16, Try.ntmps16
  go_wp2
  go_loopw [3, 8] (fun v i wr => ∃ (k : Nat) (B : Option Addr) (m d : Nat), k ≤ n ∧ i = .int .i64 k ∧ v = .slice B m d ∧ Own wr 5 1 B m d (u8s (joinM (l.take k))) ∧ (∀ j, At B j → w.heap.size ≤ j) ∧ Step (fun _ => False) w wr) (fun _ i _ => n - (intOf i).toNat)
  case atStart => exact ⟨0, none, 0, 0, Nat.zero_le _, rfl, rfl, Own.nil _ _ _, fun j hj => (at_nil hj).elim, Step.refl _ _⟩
  case round =>
    obtain ⟨k, B, m, d, hk, rfl, rfl, hown, hB, hS⟩ := hrel
    have hl' := En.out
    have hm : m = (joinM (l.take k)).length := hown.sl.n_eq
    have hSs := hS.size
    have hlr := hl.keep hS
    by_cases hlt : k < n
    · have hkl : k < l.length := by omega
      clear hl'
      obtain ⟨b, off, rfl, u, hu, hcell⟩ := hlr.at_ (k := k) hlt
      rw [strs_get _ hkl, Option.some.injEq] at hu
      subst hu
      rw [strv] at hcell
      have hj := joinM_take hkl
      have h7 : (joinM (l.take k)).length ≤ 100 * 1001 := Nat.le_trans (joinM_bound (b := 1000) (fun x hx => hb x (List.mem_of_mem_take hx))) (by rw [List.length_take]; exact Nat.mul_le_mul (by omega) (Nat.le_refl _))
      have h8 : l[k].length ≤ 1000 := hb _ (List.getElem_mem hkl)
      have h9 : m ≤ 100 * 1001 := by omega
      clear hb hm
      by_cases h0 : k = 0
      · rw [if_pos h0] at hj
        have hk0 : ¬ 0 < k := by omega
        have H0 := Lib.hid h0
        have Hj := Lib.hid hj
        clear h0 hj
        go_wp2_with (at_builtin; refine wl_append_str rfl _ _ 39 9 rfl w.heap.size 5 i0 Try.underlying39 Try.underlying9 hi0 hz0 hz1 hz2 B m d _ rfl hown hB hSs l[k] rfl (by simp [maxLen]; omega) (by omega) ?_; intro B' d' w7 hown7 hS7 hB7)
        refine ⟨⟨k + 1, B', _, d', by omega, by go_num, rfl, ?_, hB7, hS.trans hS7 (fun i hi h => by have := hB i h; omega)⟩, by simp only [intOf]; omega⟩
        rw [u8s_append] at hown7
        rw [Hj.out]
        have hx : joinM (l.take k) = [] := by rw [H0.out]; rfl
        rwa [hx, List.nil_append] at hown7
      · rw [if_neg h0] at hj
        have hk0 : 0 < k := by omega
        have Hj := Lib.hid hj
        clear h0 hj
        go_wp2_with (first
          | (at_builtin; refine wl_append _ rfl _ _ 39 rfl 5 i0 _ 1 1 Try.underlying39 hi0 hz0 hz1 hz2 rfl (by decide) B m d (u8s (joinM (l.take k))) rfl (hown.alloc _) _ 1 1 (u8s [47]) rfl (sl_one _ _ _) (u8s_one _) (by simp [maxLen]; omega) (by omega) ?_; intro B6 d6 w6 hown6 hS6 hB6'; have hw6 := hS6.size; have hB6 : ∀ j, At B6 j → w.heap.size ≤ j := fun j hj => by (rcases hB6' j hj with h | h; exact hB j h; simp at h; omega))
          | (at_builtin; refine wl_append_str rfl _ _ 39 9 rfl w.heap.size 5 i0 Try.underlying39 Try.underlying9 hi0 hz0 hz1 hz2 B6 (m + 1) d6 _ rfl hown6 hB6 (by simp at hw6; omega) l[k] rfl (by simp [maxLen]; omega) (by omega) ?_; intro B' d' w7 hown7 hS7 hB7))
        refine ⟨⟨k + 1, B', _, d', by omega, by go_num, rfl, ?_, hB7, ((hS.alloc _).trans hS6 (fun i hi h => by have := hB i h; omega)).trans hS7 (fun i hi h => by have := hB6 i h; omega)⟩, by simp only [intOf]; omega⟩
        rw [u8s_append, u8s_append] at hown7
        rw [Hj.out]
        simpa using hown7
    · rw [List.take_of_length_le (by omega)] at hown
      have hcv := run_bytes_string0 (P := Try.prog) (src := 39) (dst := 9) Try.underlying39 Try.underlying5 Try.underlying9 hown.sl
      clear hm
      go_wp2
      go_ret
      exact ⟨rfl, hS⟩
end Go.Proofs.Ytplcoielgencfaa
