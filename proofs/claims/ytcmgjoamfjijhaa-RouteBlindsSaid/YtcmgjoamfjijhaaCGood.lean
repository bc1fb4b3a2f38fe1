/- Names: route.Good and the reference's Good answer alike. -/
import Derived.Test.YtcmgjoamfjijhaaProg
import Derived.Test.YtcmgjoamfjijhaaCB1
namespace Go.Proofs.Ytcmgjoamfjijhaa
open Go.RowKit

/-- A text that is a name. -/
def goodM (l : List UInt8) : Bool :=
  decide (1 ≤ l.length) && decide (l.length ≤ 64) && !(l == [46]) && !(l == [46, 46]) && l.all (fun c => !(c == 0) && !(c == 47))

theorem goodM_iff (l : List UInt8) : goodM l = true ↔ 1 ≤ l.length ∧ l.length ≤ 64 ∧ l ≠ [46] ∧ l ≠ [46, 46] ∧ ∀ c ∈ l, c ≠ 0 ∧ c ≠ 47 := by
  simp [goodM, and_assoc]
theorem goodM_no {l : List UInt8} (h : ¬ (1 ≤ l.length ∧ l.length ≤ 64 ∧ l ≠ [46] ∧ l ≠ [46, 46] ∧ ∀ c ∈ l, c ≠ 0 ∧ c ≠ 47)) : goodM l = false :=
  Bool.eq_false_iff.2 (fun e => h ((goodM_iff l).1 e))
theorem goodM_sign {l : List UInt8} {k : Nat} (hk : k < l.length) (h : l[k] = 0 ∨ l[k] = 47) : goodM l = false :=
  goodM_no (fun e => by
    have := e.2.2.2.2 _ (List.getElem_mem hk)
    rcases h with h | h
    · exact this.1 h
    · exact this.2 h)
theorem take_all {α : Type} {l : List α} {k : Nat} {p : α → Prop} (h : ∀ c ∈ l.take k, p c) (hk : k < l.length) (hn : p l[k]) : ∀ c ∈ l.take (k + 1), p c := by
  rw [List.take_succ_eq_append_getElem hk]
  intro c hc
  rcases List.mem_append.1 hc with e | e
  · exact h c e
  · rw [List.mem_singleton.1 e]
    exact hn
theorem u8_eq {c : UInt8} {n : Nat} (h : (c.toNat : Int) = n) (hn : n < 256) : c = UInt8.ofNat n := by
  apply UInt8.toNat_inj.1
  rw [UInt8.toNat_ofNat']
  omega
theorem u8_eq' {c : UInt8} {n : Nat} (h : c.toNat = n) (hn : n < 256) : c = UInt8.ofNat n := u8_eq (by rw [h]) hn

set_option maxRecDepth 100000 in
theorem good_code {w : World} {l : List UInt8} :
    Calls Try.prog 77 #[.string (str l)] w fun e w' => e = .returned (.bool (goodM l)) ∧ Step (fun _ => False) w w' := by
  have hsz := str_size l
  have hda := str_toList l
  go_enter Try.func77, Try.ntmps77
  by_cases ht : l = [] ∨ 64 < l.length ∨ l = [46] ∨ l = [46, 46]
  · have hg : goodM l = false := goodM_no (by
      rintro ⟨h1, h2, h3, h4, _⟩
      rcases ht with h | h | h | h
      · rw [h] at h1; simp at h1
      · omega
      · exact h3 h
      · exact h4 h)
    have hb : (l.isEmpty || decide (64 < (l.length : Int)) || l == [46] || l == [46, 46]) = true := by
      rcases ht with h | h | h | h
      · simp [h]
      · have : (64 : Int) < l.length := by omega
        simp [this]
      · simp [h]
      · simp [h]
    rw [hg]
    go_wp2
    go_ways
    all_goals first
      | (go_ret; exact ⟨rfl, Step.refl _ _⟩)
      | skip
  · have h0 : l.isEmpty = false := by
      cases l with
      | nil => exact absurd (.inl rfl) ht
      | cons => rfl
    have h1 : l.length ≤ 64 := by rcases Nat.lt_or_ge 64 l.length with h | h; exact absurd (.inr (.inl h)) ht; exact h
    have h2 : (l == [46]) = false := beq_eq_false_iff_ne.2 (fun e => ht (.inr (.inr (.inl e))))
    have h3 : (l == [46, 46]) = false := beq_eq_false_iff_ne.2 (fun e => ht (.inr (.inr (.inr e))))
    go_wp2_with (refine wl_bytes rfl 9 27 5 _ rfl l rfl Try.underlying9 Try.underlying27 Try.underlying5 (by simp [maxLen]; omega) ?_; intro c' w1 hs1 hS1 hz1)
    go_loop [23] (fun i => ∃ k : Nat, k ≤ l.length ∧ i = .int .i64 k ∧ ∀ c ∈ l.take k, c ≠ 0 ∧ c ≠ 47) (fun i => l.length - (intOf i).toNat)
    case atStart => exact ⟨0, Nat.zero_le _, rfl, by simp⟩
    case round =>
      obtain ⟨k, hk, rfl, ha⟩ := hrel
      by_cases hlt : k < l.length
      · obtain ⟨b, off, e, _, hc⟩ := hs1.pos (by omega)
        injection e with e
        injection e with e1 e2
        subst e1 e2
        have hc := hc k _ (u8s_get l k hlt)
        rw [Nat.zero_add, u8v] at hc
        by_cases h0 : l[k] = 0
        · rw [h0] at hc
          go_wp2
          go_ret
          exact ⟨by rw [goodM_sign hlt (.inl h0)]; rfl, hS1⟩
        · by_cases h1 : l[k] = 47
          · rw [h1] at hc
            go_wp2
            go_ret
            exact ⟨by rw [goodM_sign hlt (.inr h1)]; rfl, hS1⟩
          · have ha' := take_all ha hlt ⟨h0, h1⟩
            have hx : ((l[k].toNat : Int) == 0) = false := beq_eq_false_iff_ne.2 (fun e => h0 (UInt8.toNat_inj.1 (by simpa using e)))
            have hy : ((l[k].toNat : Int) == 47) = false := beq_eq_false_iff_ne.2 (fun e => h1 (UInt8.toNat_inj.1 (by simp; omega)))
            go_wp2
            exact ⟨⟨k + 1, by omega, by go_num, ha'⟩, by simp only [intOf]; omega⟩
      · rw [List.take_of_length_le (by omega)] at ha
        go_wp2
        go_ret
        refine ⟨congrArg (fun b => Ending.returned (.bool b)) ((goodM_iff l).2 ⟨?_, h1, fun e => ht (.inr (.inr (.inl e))), fun e => ht (.inr (.inr (.inr e))), ha⟩).symm, hS1⟩
        cases l with
        | nil => cases h0
        | cons => simp
end Go.Proofs.Ytcmgjoamfjijhaa
