/- The reference's SameNames. -/
import Derived.Test.YtplcoielgencfaaProg
import Derived.Test.YtplcoielgencfaaCB1
namespace Go.Proofs.Ytplcoielgencfaa
open Go.RowKit

theorem same_names_step {α : Type} {l m : List α} {k : Nat} (hl : k < l.length) (hm : k < m.length) (h : l.take k = m.take k) (e : l[k] = m[k]) : l.take (k + 1) = m.take (k + 1) := by
  rw [List.take_succ_eq_append_getElem hl, List.take_succ_eq_append_getElem hm, h, e]

set_option maxRecDepth 100000 in
theorem same_names {w : World} {A B : Option Addr} {n c m d : Nat} {l k : List (List UInt8)} (hl : Sl w A n c 1 (strs l)) (hk : Sl w B m d 1 (strs k)) (_ : n ≤ 1000000000) :
    Calls Try.prog 14 #[.slice A n c, .slice B m d] w fun e w' => e = .returned (.bool (decide (l = k))) ∧ ∃ q, w' = w.drewN q := by
  have e1 := hl.n_strs
  have e2 := hk.n_strs
  by_cases hne : l.length ≠ k.length
  · have hd : decide (l = k) = false := decide_eq_false (fun e => hne (by rw [e]))
    rw [hd]
    have hx : ¬ n = m := by omega
    clear e1 e2
    go_enter Try.func14, Try.ntmps14
    go_wp2
    go_ret
    exact ⟨rfl, 0, rfl⟩
  · have hnm : m = n := by omega
    subst hnm
    have E1 := Lib.hid e1
    have E2 := Lib.hid e2
    clear e1 e2 hne
    go_enter Try.func14, Try.ntmps14
    go_wp2
    go_loopw [13] (fun i wr => ∃ j : Nat, j ≤ m ∧ i = .int .i64 j ∧ l.take j = k.take j ∧ ∃ q, wr = w.drewN q) (fun i _ => m - (intOf i).toNat)
    case atStart => exact ⟨0, Nat.zero_le _, rfl, rfl, 0, rfl⟩
    case round =>
      obtain ⟨j, hj, rfl, hp, q, rfl⟩ := hrel
      have Hp := Lib.hid hp
      clear hp
      have hn1 := E1.out
      have hn2 := E2.out
      by_cases hlt : j < m
      · have hjl : j < l.length := by omega
        have hjk : j < k.length := by omega
        clear hn1 hn2
        obtain ⟨b, off, rfl, u, hu, hc⟩ := hl.at_ (k := j) hlt
        obtain ⟨b2, off2, rfl, u2, hu2, hc2⟩ := hk.at_ (k := j) hlt
        rw [strs_get l hjl, Option.some.injEq] at hu
        rw [strs_get k hjk, Option.some.injEq] at hu2
        subst hu hu2
        rw [strv] at hc hc2
        have h1 := str_toList l[j]
        have h2 := str_toList k[j]
        by_cases he : l[j] = k[j]
        · have hb : (l[j] == k[j]) = true := by rw [he]; simp
          have He := Lib.hid he
          clear he
          go_wp2
          go_quiet (fail)
          go_wp2
          go_roundw
          case rel => exact ⟨j + 1, by omega, by go_num, same_names_step hjl hjk Hp.out He.out, q + nq, by simp⟩
          case measure => simp [intOf]; omega
        · have hb : (l[j] == k[j]) = false := by simpa using he
          go_wp2
          go_quiet (fail)
          go_wp2
          go_ret
          refine ⟨congrArg (fun b => Ending.returned (.bool b)) (decide_eq_false (fun e => he (by subst e; rfl))).symm, q + nq, by simp⟩
      · go_wp2
        go_ret
        refine ⟨congrArg (fun b => Ending.returned (.bool b)) (decide_eq_true ?_).symm, q, rfl⟩
        have := Hp.out
        rwa [List.take_of_length_le (by omega), List.take_of_length_le (by omega)] at this
end Go.Proofs.Ytplcoielgencfaa
