/- Numbers as bytes, written and read; plain. -/
import Derived.Test.YtcmgjoamfjijhaaStr
import Derived.Test.YtcmgjoamfjijhaaAgg
namespace Go.Proofs.Ytcmgjoamfjijhaa
open Go.RowKit

/-- A number's bytes. -/
def nM (n : Nat) : List UInt8 := if n < 128 then [UInt8.ofNat n] else UInt8.ofNat (n % 128 + 128) :: nM (n / 128)
termination_by n
decreasing_by omega

theorem nM_small {n : Nat} (h : n < 128) : nM n = [UInt8.ofNat n] := by rw [nM, if_pos h]
theorem nM_big {n : Nat} (h : ¬ n < 128) : nM n = UInt8.ofNat (n % 128 + 128) :: nM (n / 128) := by rw [nM, if_neg h]
theorem nM_len : ∀ (k n : Nat), n < 128 ^ (k + 1) → (nM n).length ≤ k + 1
  | 0, n, h => by rw [nM_small (by simpa using h)]; simp
  | k + 1, n, h => by
    by_cases hs : n < 128
    · rw [nM_small hs]; simp
    · rw [nM_big hs, List.length_cons]
      have := nM_len k (n / 128) (by rw [Nat.div_lt_iff_lt_mul (by omega)]; rw [Nat.pow_succ] at h; exact h)
      omega
theorem nM_ten {n : Nat} (h : n < 2 ^ 64) : (nM n).length ≤ 10 := nM_len 9 n (Nat.lt_of_lt_of_le h (by decide))
theorem nM_pos (n : Nat) : 0 < (nM n).length := by rw [nM]; split <;> simp

theorem bits_goes (x : Nat) : bits .or .u8 ((x : Int) % 256) 128 = ((x % 128 + 128 : Nat) : Int) := by
  have h : ∀ y : Fin 256, bits .or .u8 ((y.1 : Nat) : Int) 128 = ((y.1 % 128 + 128 : Nat) : Int) := by decide +kernel
  have := h ⟨x % 256, Nat.mod_lt _ (by omega)⟩
  rw [show ((x : Int) % 256) = ((x % 256 : Nat) : Int) by omega, this]
  congr 1
  simp only
  omega

theorem cell_small {x : Nat} (h : x < 128) : u8s [UInt8.ofNat x] = [.int .u8 (x : Int)] := by
  simp only [u8s, u8v, List.map_cons, List.map_nil, UInt8.toNat_ofNat']
  rw [Nat.mod_eq_of_lt (by omega)]
theorem cell_goes (x : Nat) : u8s [UInt8.ofNat (x % 128 + 128)] = [.int .u8 (bits .or .u8 ((x : Int) % 256) 128)] := by
  rw [bits_goes]
  simp only [u8s, u8v, List.map_cons, List.map_nil, UInt8.toNat_ofNat']
  rw [Nat.mod_eq_of_lt (by omega)]

/-- The number at a text's beginning, in its only form, and what stands behind it. -/
def dec : List UInt8 → Option (Nat × List UInt8)
  | [] => none
  | c :: r => if c.toNat < 128 then some (c.toNat, r) else match dec r with
    | some (n, r') => if n = 0 then none else some (c.toNat - 128 + 128 * n, r')
    | none => none

theorem dec_nM (n : Nat) (r : List UInt8) : dec (nM n ++ r) = some (n, r) := by
  induction n using nM.induct with
  | case1 n h =>
    rw [nM_small h, List.singleton_append, dec]
    have : (UInt8.ofNat n).toNat = n := by rw [UInt8.toNat_ofNat']; omega
    rw [this, if_pos h]
  | case2 n h ih =>
    rw [nM_big h, List.cons_append, dec]
    have : (UInt8.ofNat (n % 128 + 128)).toNat = n % 128 + 128 := by rw [UInt8.toNat_ofNat']; omega
    rw [this, if_neg (by omega), ih]
    simp only
    rw [if_neg (by omega)]
    congr 2
    omega
theorem dec_spec : ∀ {l : List UInt8} {n : Nat} {r : List UInt8}, dec l = some (n, r) → l = nM n ++ r
  | [], _, _, h => by cases h
  | c :: l, n, r, h => by
    have hc := c.toNat_lt
    rw [dec] at h
    split at h
    · rename_i h1
      cases h
      rw [nM_small h1, UInt8.ofNat_toNat]
      rfl
    · rename_i h1
      cases hd : dec l with
      | none => rw [hd] at h; cases h
      | some p =>
        obtain ⟨m, q⟩ := p
        rw [hd] at h
        simp only at h
        split at h
        · cases h
        · rename_i h2
          cases h
          have := dec_spec hd
          rw [nM_big (by omega)]
          have e1 : (c.toNat - 128 + 128 * m) % 128 + 128 = c.toNat := by omega
          have e2 : (c.toNat - 128 + 128 * m) / 128 = m := by omega
          rw [e1, e2, UInt8.ofNat_toNat, this]
          rfl
/-- What stands behind it, with i bytes already read as acc. -/
def decC (acc i : Nat) : Option (Nat × List UInt8) → Option (Nat × List UInt8)
  | some (m, r) => if m = 0 ∧ 0 < i then none else some (acc + 128 ^ i * m, r)
  | none => none
theorem decC_start (l : List UInt8) : decC 0 0 (dec (l.drop 0)) = dec l := by
  rw [List.drop_zero]
  cases dec l with
  | none => rfl
  | some p => obtain ⟨m, r⟩ := p; simp [decC]
theorem decC_nil (acc i : Nat) {l : List UInt8} (h : l.length ≤ i) : decC acc i (dec (l.drop i)) = none := by
  rw [List.drop_eq_nil_of_le h]; rfl
theorem decC_step (acc i : Nat) {l : List UInt8} (hi : i < l.length) (hc : 128 ≤ l[i].toNat) : decC acc i (dec (l.drop i)) = decC (acc + 128 ^ i * (l[i].toNat - 128)) (i + 1) (dec (l.drop (i + 1))) := by
  rw [List.drop_eq_getElem_cons hi, dec, if_neg (by omega)]
  cases dec (l.drop (i + 1)) with
  | none => simp only [decC]
  | some p =>
    obtain ⟨m, r⟩ := p
    simp only [decC]
    by_cases hm : m = 0
    · simp only [hm, true_and, Nat.succ_pos, if_true]
    · have h1 : ¬ (l[i].toNat - 128 + 128 * m = 0 ∧ 0 < i) := by omega
      have h2 : ¬ (m = 0 ∧ 0 < i + 1) := by omega
      have h3 : acc + 128 ^ i * (l[i].toNat - 128 + 128 * m) = acc + 128 ^ i * (l[i].toNat - 128) + 128 ^ (i + 1) * m := by rw [Nat.pow_succ, Nat.mul_add, Nat.mul_assoc, Nat.add_assoc]
      rw [if_neg hm]
      simp only
      rw [if_neg h1, if_neg h2, h3]
theorem decC_zero (acc i : Nat) {l : List UInt8} (hi : i < l.length) (hc : l[i].toNat = 0) (h0 : 0 < i) : decC acc i (dec (l.drop i)) = none := by
  rw [List.drop_eq_getElem_cons hi, dec, if_pos (by omega), hc]
  simp [decC, h0]
theorem decC_end (acc i : Nat) {l : List UInt8} (hi : i < l.length) (hc : l[i].toNat < 128) (h0 : l[i].toNat ≠ 0 ∨ i = 0) : decC acc i (dec (l.drop i)) = some (acc + 128 ^ i * l[i].toNat, l.drop (i + 1)) := by
  rw [List.drop_eq_getElem_cons hi, dec, if_pos hc]
  simp only [decC]
  rw [if_neg (by omega)]
theorem dec_least {l : List UInt8} {i m : Nat} {r : List UInt8} (hi : i < l.length) (h : dec (l.drop i) = some (m, r)) : l[i].toNat % 128 ≤ m := by
  rw [List.drop_eq_getElem_cons hi, dec] at h
  have := l[i].toNat_lt
  split at h
  · cases h; omega
  · cases hd : dec (l.drop (i + 1)) with
    | none => rw [hd] at h; cases h
    | some p =>
      obtain ⟨m', r'⟩ := p
      rw [hd] at h
      simp only at h
      split at h
      · cases h
      · cases h; omega
def fitN (most : Nat) : Option (Nat × List UInt8) → Option (Nat × List UInt8)
  | some (n, r) => if n ≤ most then some (n, r) else none
  | none => none
/-- The number, if it is at most so great. -/
def takeN (most : Nat) (l : List UInt8) : Option (Nat × List UInt8) := fitN most (dec l)
theorem takeN_none {most : Nat} {l : List UInt8} (h : dec l = none) : takeN most l = none := by rw [takeN, h]; rfl
theorem takeN_big {most acc i : Nat} {l : List UInt8} (hd : dec l = decC acc i (dec (l.drop i))) (h : ∀ m r, dec (l.drop i) = some (m, r) → ¬ (m = 0 ∧ 0 < i) → most < 128 ^ i * m) : takeN most l = none := by
  rw [takeN, hd]
  cases hx : dec (l.drop i) with
  | none => rfl
  | some p =>
    obtain ⟨m, r⟩ := p
    simp only [decC]
    by_cases h0 : m = 0 ∧ 0 < i
    · rw [if_pos h0]; rfl
    · rw [if_neg h0]
      have := h m r hx h0
      simp only [fitN]
      rw [if_neg (by omega)]
/-- Past ten bytes. -/
theorem takeN_far {most acc i : Nat} {l : List UInt8} (hm : most < 2 ^ 64) (hd : dec l = decC acc i (dec (l.drop i))) (hi : 10 ≤ i) : takeN most l = none :=
  takeN_big hd fun m r _ h0 => by
    have h1 : 128 ^ 10 ≤ 128 ^ i := Nat.pow_le_pow_right (by omega) hi
    have h2 : 0 < m := by omega
    have h3 : 128 ^ i * 1 ≤ 128 ^ i * m := Nat.mul_le_mul_left _ h2
    have h4 : (2 : Nat) ^ 64 < 128 ^ 10 := by decide
    omega
/-- Past 64 bits. -/
theorem takeN_over {most acc i : Nat} {l : List UInt8} (hm : most < 2 ^ 64) (hd : dec l = decC acc i (dec (l.drop i))) (hi : i < l.length) (h : 2 ^ 64 ≤ 128 ^ i * (l[i].toNat % 128)) : takeN most l = none :=
  takeN_big hd fun m r hx _ => by
    have h1 := Nat.mul_le_mul_left (128 ^ i) (dec_least hi hx)
    omega
/-- Its tenth byte goes on. -/
theorem takeN_goes {most acc : Nat} {l : List UInt8} (hm : most < 2 ^ 64) (hd : dec l = decC acc 9 (dec (l.drop 9))) (hi : 9 < l.length) (h : 1 < l[9].toNat) : takeN most l = none := by
  by_cases hc : l[9].toNat < 128
  · exact takeN_over hm hd hi (by
      rw [Nat.mod_eq_of_lt hc]
      exact Nat.mul_le_mul_left _ h)
  · rw [decC_step _ _ hi (by omega)] at hd
    exact takeN_far hm hd (Nat.le_refl _)
theorem takeN_nM {most n : Nat} (h : n ≤ most) (r : List UInt8) : takeN most (nM n ++ r) = some (n, r) := by rw [takeN, dec_nM]; simp [fitN, h]
theorem takeN_spec {most n : Nat} {l r : List UInt8} (h : takeN most l = some (n, r)) : l = nM n ++ r ∧ n ≤ most := by
  unfold takeN at h
  cases hd : dec l with
  | none => rw [hd] at h; cases h
  | some p =>
    obtain ⟨m, q⟩ := p
    rw [hd] at h
    simp only [fitN] at h
    split at h
    · cases h; exact ⟨dec_spec hd, by assumption⟩
    · cases h

/-! ### Reading: what is left, or that something failed -/
abbrev RS := Option (List UInt8)
def numT (most : Nat) (s : RS) : Nat × RS := match s.bind (takeN most) with
  | some (n, r) => (n, some r)
  | none => (0, none)
def rawT (n : Nat) : RS → List UInt8 × RS
  | some l => if n ≤ l.length then (l.take n, some (l.drop n)) else ([], none)
  | none => ([], none)
def textT (most : Nat) (s : RS) : List UInt8 × RS := rawT (numT most s).1 (numT most s).2
def idT : RS → Id × RS
  | some l => if h : 32 ≤ l.length then (⟨l.take 32, by rw [List.length_take]; omega⟩, some (l.drop 32)) else (idz, none)
  | none => (idz, none)
def idsN : Nat → RS → List Id × RS
  | 0, s => ([], s)
  | n + 1, s => match (idT s).2 with
    | none => ([], none)
    | some r => ((idT s).1 :: (idsN n (some r)).1, (idsN n (some r)).2)
def idsT (most : Nat) (s : RS) : List Id × RS := match (idsN (numT most s).1 (numT most s).2).2 with
  | none => ([], none)
  | some r => ((idsN (numT most s).1 (numT most s).2).1, some r)
def idsB (l : List Id) : List UInt8 := l.flatMap (·.1)

theorem numT_none (most : Nat) : numT most none = (0, none) := rfl
theorem numT_le (most : Nat) (s : RS) : (numT most s).1 ≤ most := by
  unfold numT
  cases s with
  | none => simp
  | some l =>
    rw [Option.bind_some]
    cases h : takeN most l with
    | none => simp
    | some p => obtain ⟨n, r⟩ := p; exact (takeN_spec h).2
theorem numT_spec {most : Nat} {s : RS} {r : List UInt8} (h : (numT most s).2 = some r) : s = some (nM (numT most s).1 ++ r) := by
  unfold numT at h ⊢
  cases s with
  | none => cases h
  | some l =>
    rw [Option.bind_some] at h ⊢
    cases ht : takeN most l with
    | none => rw [ht] at h; cases h
    | some p =>
      obtain ⟨n, q⟩ := p
      rw [ht] at h
      cases h
      rw [(takeN_spec ht).1]
theorem numT_nM {most n : Nat} (h : n ≤ most) (r : List UInt8) : numT most (some (nM n ++ r)) = (n, some r) := by
  rw [numT, Option.bind_some, takeN_nM h]
theorem rawT_spec {n : Nat} {s : RS} {r : List UInt8} (h : (rawT n s).2 = some r) : s = some ((rawT n s).1 ++ r) ∧ (rawT n s).1.length = n := by
  cases s with
  | none => cases h
  | some l =>
    rw [rawT] at h ⊢
    split at h
    · rename_i hn
      cases h
      rw [if_pos hn]
      exact ⟨by rw [List.take_append_drop], by rw [List.length_take]; omega⟩
    · cases h
theorem rawT_app (t r : List UInt8) : rawT t.length (some (t ++ r)) = (t, some r) := by
  rw [rawT, if_pos (by simp), List.take_left, List.drop_left]
theorem rawT_le (n : Nat) (s : RS) : (rawT n s).1.length ≤ n := by
  cases s with
  | none => simp [rawT]
  | some l =>
    rw [rawT]
    split
    · rw [List.length_take]; omega
    · simp
theorem textT_le (most : Nat) (s : RS) : (textT most s).1.length ≤ most := Nat.le_trans (rawT_le _ _) (numT_le _ _)
theorem textT_spec {most : Nat} {s : RS} {r : List UInt8} (h : (textT most s).2 = some r) : s = some (nM (textT most s).1.length ++ ((textT most s).1 ++ r)) ∧ (textT most s).1.length ≤ most := by
  unfold textT at h ⊢
  obtain ⟨h1, h2⟩ := rawT_spec h
  have h3 := numT_spec h1
  rw [h2]
  exact ⟨h3, numT_le most s⟩
theorem textT_app {most : Nat} {t : List UInt8} (h : t.length ≤ most) (r : List UInt8) : textT most (some (nM t.length ++ (t ++ r))) = (t, some r) := by
  rw [textT, numT_nM h]
  exact rawT_app t r
theorem idT_spec {s : RS} {r : List UInt8} (h : (idT s).2 = some r) : s = some ((idT s).1.1 ++ r) := by
  cases s with
  | none => cases h
  | some l =>
    rw [idT] at h ⊢
    split at h
    · rename_i hn
      cases h
      rw [dif_pos hn]
      simp
    · cases h
theorem idT_app (x : Id) (r : List UInt8) : idT (some (x.1 ++ r)) = (x, some r) := by
  have hx := x.2
  rw [idT, dif_pos (by simp; omega)]
  congr 1
  · apply Subtype.ext
    simp only
    exact List.take_left' hx
  · rw [List.drop_left' hx]
theorem idT_raw (s : RS) : (rawT 32 s).2 = (idT s).2 := by
  cases s with
  | none => rfl
  | some l =>
    simp only [rawT, idT]
    split <;> rfl
theorem idT_some {l : List UInt8} (h : 32 ≤ l.length) : idT (some l) = (⟨l.take 32, by rw [List.length_take]; omega⟩, some (l.drop 32)) := by rw [idT, dif_pos h]
theorem idT_short {l : List UInt8} (h : ¬ 32 ≤ l.length) : idT (some l) = (idz, none) := by rw [idT, dif_neg h]
theorem idsN_spec : ∀ (n : Nat) {s : RS} {r : List UInt8}, (idsN n s).2 = some r → s = some (idsB (idsN n s).1 ++ r) ∧ (idsN n s).1.length = n
  | 0, s, r, h => ⟨h, rfl⟩
  | n + 1, s, r, h => by
    rw [idsN] at h ⊢
    cases hi : (idT s).2 with
    | none => rw [hi] at h; cases h
    | some q =>
      rw [hi] at h
      obtain ⟨h1, h2⟩ := idsN_spec n h
      refine ⟨(idT_spec hi).trans ?_, by simp only [List.length_cons, h2]⟩
      simp only [idsB, List.flatMap_cons, List.append_assoc]
      have := Option.some.inj h1
      rw [idsB] at this
      rw [← this]
theorem idsN_len : ∀ (n : Nat) (s : RS), (idsN n s).1.length ≤ n
  | 0, s => Nat.le_refl _
  | n + 1, s => by
    rw [idsN]
    cases (idT s).2 with
    | none => simp
    | some r => have := idsN_len n (some r); simp only [List.length_cons]; omega
theorem idsN_app (r : List UInt8) : ∀ l : List Id, idsN l.length (some (idsB l ++ r)) = (l, some r)
  | [] => rfl
  | x :: l => by
    rw [List.length_cons, idsN]
    have : idsB (x :: l) ++ r = x.1 ++ (idsB l ++ r) := by simp [idsB]
    rw [this, idT_app]
    simp only
    rw [idsN_app r l]
theorem idsT_spec {most : Nat} {s : RS} {r : List UInt8} (h : (idsT most s).2 = some r) : s = some (nM (idsT most s).1.length ++ (idsB (idsT most s).1 ++ r)) ∧ (idsT most s).1.length ≤ most := by
  unfold idsT at h ⊢
  cases hq : (idsN (numT most s).1 (numT most s).2).2 with
  | none => rw [hq] at h; cases h
  | some q =>
    rw [hq] at h
    cases h
    obtain ⟨h1, h2⟩ := idsN_spec _ hq
    have h3 := numT_spec h1
    simp only
    rw [h2]
    exact ⟨h3, numT_le most s⟩
theorem idsT_app {most : Nat} {l : List Id} (h : l.length ≤ most) (r : List UInt8) : idsT most (some (nM l.length ++ (idsB l ++ r))) = (l, some r) := by
  rw [idsT, numT_nM h, idsN_app]
theorem idsT_le (most : Nat) (s : RS) : (idsT most s).1.length ≤ most := by
  cases h : (idsT most s).2 with
  | some r => exact (idsT_spec h).2
  | none =>
    unfold idsT at h ⊢
    cases hq : (idsN (numT most s).1 (numT most s).2).2 with
    | none => simp
    | some q => rw [hq] at h; cases h
end Go.Proofs.Ytcmgjoamfjijhaa
