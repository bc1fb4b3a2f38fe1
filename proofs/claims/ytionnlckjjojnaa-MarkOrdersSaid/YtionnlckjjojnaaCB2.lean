/- Lemmas on memory as a list of parts, laid one behind the other; no condition. -/
import Derived.Test.YtionnlckjjojnaaCB1
import Derived.Maps.Own
import Derived.DeepKeys4
import Derived.Maps.RangeRun
import Derived.ProofKit
import Derived.OpenShut
import Derived.Deep.Slices
import Derived.WideKeyEntry
import Derived.Shelf.GgSortFunc.InsertionK
namespace Go.Proofs.Ytionnlckjjojnaa
open Go.RowKit

/-- A number's bytes. -/
def nM (n : Nat) : List UInt8 := if n < 128 then [UInt8.ofNat n] else UInt8.ofNat (n % 128 + 128) :: nM (n / 128)
termination_by n
decreasing_by omega

theorem nM_small {n : Nat} (h : n < 128) : nM n = [UInt8.ofNat n] := by rw [nM, if_pos h]
theorem nM_big {n : Nat} (h : ¬ n < 128) : nM n = UInt8.ofNat (n % 128 + 128) :: nM (n / 128) := by rw [nM, if_neg h]
theorem nM_len : ∀ (k n : Nat), n < 128 ^ (k + 1) → (nM n).length ≤ k + 1
  | 0, n, h => by rw [nM_small (by simpa using h)]; simp
  | k + 1, n, h => by
    by_cases hs : n < 128
    · rw [nM_small hs]; simp
    · rw [nM_big hs, List.length_cons]
      have := nM_len k (n / 128) (by rw [Nat.div_lt_iff_lt_mul (by omega)]; rw [Nat.pow_succ] at h; exact h)
      omega
theorem nM_ten {n : Nat} (h : n < 2 ^ 64) : (nM n).length ≤ 10 := nM_len 9 n (Nat.lt_of_lt_of_le h (by decide))
theorem nM_pos (n : Nat) : 0 < (nM n).length := by rw [nM]; split <;> simp

theorem bits_goes (x : Nat) : bits .or .u8 ((x : Int) % 256) 128 = ((x % 128 + 128 : Nat) : Int) := by
  have h : ∀ y : Fin 256, bits .or .u8 ((y.1 : Nat) : Int) 128 = ((y.1 % 128 + 128 : Nat) : Int) := by decide +kernel
  have := h ⟨x % 256, Nat.mod_lt _ (by omega)⟩
  rw [show ((x : Int) % 256) = ((x % 256 : Nat) : Int) by omega, this]
  congr 1
  simp only
  omega

theorem cell_small {x : Nat} (h : x < 128) : u8s [UInt8.ofNat x] = [.int .u8 (x : Int)] := by
  simp only [u8s, u8v, List.map_cons, List.map_nil, UInt8.toNat_ofNat']
  rw [Nat.mod_eq_of_lt (by omega)]
theorem cell_goes (x : Nat) : u8s [UInt8.ofNat (x % 128 + 128)] = [.int .u8 (bits .or .u8 ((x : Int) % 256) 128)] := by
  rw [bits_goes]
  simp only [u8s, u8v, List.map_cons, List.map_nil, UInt8.toNat_ofNat']
  rw [Nat.mod_eq_of_lt (by omega)]

/-- The number at a text's beginning, in its only form, and what stands behind it. -/
def dec : List UInt8 → Option (Nat × List UInt8)
  | [] => none
  | c :: r => if c.toNat < 128 then some (c.toNat, r) else match dec r with
    | some (n, r') => if n = 0 then none else some (c.toNat - 128 + 128 * n, r')
    | none => none

theorem dec_nM (n : Nat) (r : List UInt8) : dec (nM n ++ r) = some (n, r) := by
  induction n using nM.induct with
  | case1 n h =>
    rw [nM_small h, List.singleton_append, dec]
    have : (UInt8.ofNat n).toNat = n := by rw [UInt8.toNat_ofNat']; omega
    rw [this, if_pos h]
  | case2 n h ih =>
    rw [nM_big h, List.cons_append, dec]
    have : (UInt8.ofNat (n % 128 + 128)).toNat = n % 128 + 128 := by rw [UInt8.toNat_ofNat']; omega
    rw [this, if_neg (by omega), ih]
    simp only
    rw [if_neg (by omega)]
    congr 2
    omega
theorem dec_spec : ∀ {l : List UInt8} {n : Nat} {r : List UInt8}, dec l = some (n, r) → l = nM n ++ r
  | [], _, _, h => by cases h
  | c :: l, n, r, h => by
    have hc := c.toNat_lt
    rw [dec] at h
    split at h
    · rename_i h1
      cases h
      rw [nM_small h1, UInt8.ofNat_toNat]
      rfl
    · rename_i h1
      cases hd : dec l with
      | none => rw [hd] at h; cases h
      | some p =>
        obtain ⟨m, q⟩ := p
        rw [hd] at h
        simp only at h
        split at h
        · cases h
        · rename_i h2
          cases h
          have := dec_spec hd
          rw [nM_big (by omega)]
          have e1 : (c.toNat - 128 + 128 * m) % 128 + 128 = c.toNat := by omega
          have e2 : (c.toNat - 128 + 128 * m) / 128 = m := by omega
          rw [e1, e2, UInt8.ofNat_toNat, this]
          rfl
/-- What stands behind it, with i bytes already read as acc. -/
def decC (acc i : Nat) : Option (Nat × List UInt8) → Option (Nat × List UInt8)
  | some (m, r) => if m = 0 ∧ 0 < i then none else some (acc + 128 ^ i * m, r)
  | none => none
theorem decC_start (l : List UInt8) : decC 0 0 (dec (l.drop 0)) = dec l := by
  rw [List.drop_zero]
  cases dec l with
  | none => rfl
  | some p => obtain ⟨m, r⟩ := p; simp [decC]
theorem decC_nil (acc i : Nat) {l : List UInt8} (h : l.length ≤ i) : decC acc i (dec (l.drop i)) = none := by
  rw [List.drop_eq_nil_of_le h]; rfl
theorem decC_step (acc i : Nat) {l : List UInt8} (hi : i < l.length) (hc : 128 ≤ l[i].toNat) : decC acc i (dec (l.drop i)) = decC (acc + 128 ^ i * (l[i].toNat - 128)) (i + 1) (dec (l.drop (i + 1))) := by
  rw [List.drop_eq_getElem_cons hi, dec, if_neg (by omega)]
  cases dec (l.drop (i + 1)) with
  | none => simp only [decC]
  | some p =>
    obtain ⟨m, r⟩ := p
    simp only [decC]
    by_cases hm : m = 0
    · simp only [hm, true_and, Nat.succ_pos, if_true]
    · have h1 : ¬ (l[i].toNat - 128 + 128 * m = 0 ∧ 0 < i) := by omega
      have h2 : ¬ (m = 0 ∧ 0 < i + 1) := by omega
      have h3 : acc + 128 ^ i * (l[i].toNat - 128 + 128 * m) = acc + 128 ^ i * (l[i].toNat - 128) + 128 ^ (i + 1) * m := by rw [Nat.pow_succ, Nat.mul_add, Nat.mul_assoc, Nat.add_assoc]
      rw [if_neg hm]
      simp only
      rw [if_neg h1, if_neg h2, h3]
theorem decC_zero (acc i : Nat) {l : List UInt8} (hi : i < l.length) (hc : l[i].toNat = 0) (h0 : 0 < i) : decC acc i (dec (l.drop i)) = none := by
  rw [List.drop_eq_getElem_cons hi, dec, if_pos (by omega), hc]
  simp [decC, h0]
theorem decC_end (acc i : Nat) {l : List UInt8} (hi : i < l.length) (hc : l[i].toNat < 128) (h0 : l[i].toNat ≠ 0 ∨ i = 0) : decC acc i (dec (l.drop i)) = some (acc + 128 ^ i * l[i].toNat, l.drop (i + 1)) := by
  rw [List.drop_eq_getElem_cons hi, dec, if_pos hc]
  simp only [decC]
  rw [if_neg (by omega)]
theorem dec_least {l : List UInt8} {i m : Nat} {r : List UInt8} (hi : i < l.length) (h : dec (l.drop i) = some (m, r)) : l[i].toNat % 128 ≤ m := by
  rw [List.drop_eq_getElem_cons hi, dec] at h
  have := l[i].toNat_lt
  split at h
  · cases h; omega
  · cases hd : dec (l.drop (i + 1)) with
    | none => rw [hd] at h; cases h
    | some p =>
      obtain ⟨m', r'⟩ := p
      rw [hd] at h
      simp only at h
      split at h
      · cases h
      · cases h; omega
def fitN (most : Nat) : Option (Nat × List UInt8) → Option (Nat × List UInt8)
  | some (n, r) => if n ≤ most then some (n, r) else none
  | none => none
/-- The number, if it is at most so great. -/
def takeN (most : Nat) (l : List UInt8) : Option (Nat × List UInt8) := fitN most (dec l)
theorem takeN_none {most : Nat} {l : List UInt8} (h : dec l = none) : takeN most l = none := by rw [takeN, h]; rfl
theorem takeN_big {most acc i : Nat} {l : List UInt8} (hd : dec l = decC acc i (dec (l.drop i))) (h : ∀ m r, dec (l.drop i) = some (m, r) → ¬ (m = 0 ∧ 0 < i) → most < 128 ^ i * m) : takeN most l = none := by
  rw [takeN, hd]
  cases hx : dec (l.drop i) with
  | none => rfl
  | some p =>
    obtain ⟨m, r⟩ := p
    simp only [decC]
    by_cases h0 : m = 0 ∧ 0 < i
    · rw [if_pos h0]; rfl
    · rw [if_neg h0]
      have := h m r hx h0
      simp only [fitN]
      rw [if_neg (by omega)]
/-- Past ten bytes. -/
theorem takeN_far {most acc i : Nat} {l : List UInt8} (hm : most < 2 ^ 64) (hd : dec l = decC acc i (dec (l.drop i))) (hi : 10 ≤ i) : takeN most l = none :=
  takeN_big hd fun m r _ h0 => by
    have h1 : 128 ^ 10 ≤ 128 ^ i := Nat.pow_le_pow_right (by omega) hi
    have h2 : 0 < m := by omega
    have h3 : 128 ^ i * 1 ≤ 128 ^ i * m := Nat.mul_le_mul_left _ h2
    have h4 : (2 : Nat) ^ 64 < 128 ^ 10 := by decide
    omega
/-- Past 64 bits. -/
theorem takeN_over {most acc i : Nat} {l : List UInt8} (hm : most < 2 ^ 64) (hd : dec l = decC acc i (dec (l.drop i))) (hi : i < l.length) (h : 2 ^ 64 ≤ 128 ^ i * (l[i].toNat % 128)) : takeN most l = none :=
  takeN_big hd fun m r hx _ => by
    have h1 := Nat.mul_le_mul_left (128 ^ i) (dec_least hi hx)
    omega
/-- Its tenth byte goes on. -/
theorem takeN_goes {most acc : Nat} {l : List UInt8} (hm : most < 2 ^ 64) (hd : dec l = decC acc 9 (dec (l.drop 9))) (hi : 9 < l.length) (h : 1 < l[9].toNat) : takeN most l = none := by
  by_cases hc : l[9].toNat < 128
  · exact takeN_over hm hd hi (by
      rw [Nat.mod_eq_of_lt hc]
      exact Nat.mul_le_mul_left _ h)
  · rw [decC_step _ _ hi (by omega)] at hd
    exact takeN_far hm hd (Nat.le_refl _)
theorem takeN_nM {most n : Nat} (h : n ≤ most) (r : List UInt8) : takeN most (nM n ++ r) = some (n, r) := by rw [takeN, dec_nM]; simp [fitN, h]
theorem takeN_spec {most n : Nat} {l r : List UInt8} (h : takeN most l = some (n, r)) : l = nM n ++ r ∧ n ≤ most := by
  unfold takeN at h
  cases hd : dec l with
  | none => rw [hd] at h; cases h
  | some p =>
    obtain ⟨m, q⟩ := p
    rw [hd] at h
    simp only [fitN] at h
    split at h
    · cases h; exact ⟨dec_spec hd, by assumption⟩
    · cases h

/-! ### Reading: what is left, or that something failed -/
abbrev RS := Option (List UInt8)
def numT (most : Nat) (s : RS) : Nat × RS := match s.bind (takeN most) with
  | some (n, r) => (n, some r)
  | none => (0, none)
def rawT (n : Nat) : RS → List UInt8 × RS
  | some l => if n ≤ l.length then (l.take n, some (l.drop n)) else ([], none)
  | none => ([], none)
def textT (most : Nat) (s : RS) : List UInt8 × RS := rawT (numT most s).1 (numT most s).2
def idT : RS → Id × RS
  | some l => if h : 32 ≤ l.length then (⟨l.take 32, by rw [List.length_take]; omega⟩, some (l.drop 32)) else (idz, none)
  | none => (idz, none)
def idsN : Nat → RS → List Id × RS
  | 0, s => ([], s)
  | n + 1, s => match (idT s).2 with
    | none => ([], none)
    | some r => ((idT s).1 :: (idsN n (some r)).1, (idsN n (some r)).2)
def idsT (most : Nat) (s : RS) : List Id × RS := match (idsN (numT most s).1 (numT most s).2).2 with
  | none => ([], none)
  | some r => ((idsN (numT most s).1 (numT most s).2).1, some r)
def idsB (l : List Id) : List UInt8 := l.flatMap (·.1)

theorem numT_none (most : Nat) : numT most none = (0, none) := rfl
theorem numT_le (most : Nat) (s : RS) : (numT most s).1 ≤ most := by
  unfold numT
  cases s with
  | none => simp
  | some l =>
    rw [Option.bind_some]
    cases h : takeN most l with
    | none => simp
    | some p => obtain ⟨n, r⟩ := p; exact (takeN_spec h).2
theorem numT_spec {most : Nat} {s : RS} {r : List UInt8} (h : (numT most s).2 = some r) : s = some (nM (numT most s).1 ++ r) := by
  unfold numT at h ⊢
  cases s with
  | none => cases h
  | some l =>
    rw [Option.bind_some] at h ⊢
    cases ht : takeN most l with
    | none => rw [ht] at h; cases h
    | some p =>
      obtain ⟨n, q⟩ := p
      rw [ht] at h
      cases h
      rw [(takeN_spec ht).1]
theorem numT_nM {most n : Nat} (h : n ≤ most) (r : List UInt8) : numT most (some (nM n ++ r)) = (n, some r) := by
  rw [numT, Option.bind_some, takeN_nM h]
theorem rawT_spec {n : Nat} {s : RS} {r : List UInt8} (h : (rawT n s).2 = some r) : s = some ((rawT n s).1 ++ r) ∧ (rawT n s).1.length = n := by
  cases s with
  | none => cases h
  | some l =>
    rw [rawT] at h ⊢
    split at h
    · rename_i hn
      cases h
      rw [if_pos hn]
      exact ⟨by rw [List.take_append_drop], by rw [List.length_take]; omega⟩
    · cases h
theorem rawT_app (t r : List UInt8) : rawT t.length (some (t ++ r)) = (t, some r) := by
  rw [rawT, if_pos (by simp), List.take_left, List.drop_left]
theorem rawT_le (n : Nat) (s : RS) : (rawT n s).1.length ≤ n := by
  cases s with
  | none => simp [rawT]
  | some l =>
    rw [rawT]
    split
    · rw [List.length_take]; omega
    · simp
theorem textT_le (most : Nat) (s : RS) : (textT most s).1.length ≤ most := Nat.le_trans (rawT_le _ _) (numT_le _ _)
theorem textT_spec {most : Nat} {s : RS} {r : List UInt8} (h : (textT most s).2 = some r) : s = some (nM (textT most s).1.length ++ ((textT most s).1 ++ r)) ∧ (textT most s).1.length ≤ most := by
  unfold textT at h ⊢
  obtain ⟨h1, h2⟩ := rawT_spec h
  have h3 := numT_spec h1
  rw [h2]
  exact ⟨h3, numT_le most s⟩
theorem textT_app {most : Nat} {t : List UInt8} (h : t.length ≤ most) (r : List UInt8) : textT most (some (nM t.length ++ (t ++ r))) = (t, some r) := by
  rw [textT, numT_nM h]
  exact rawT_app t r
theorem idT_spec {s : RS} {r : List UInt8} (h : (idT s).2 = some r) : s = some ((idT s).1.1 ++ r) := by
  cases s with
  | none => cases h
  | some l =>
    rw [idT] at h ⊢
    split at h
    · rename_i hn
      cases h
      rw [dif_pos hn]
      simp
    · cases h
theorem idT_app (x : Id) (r : List UInt8) : idT (some (x.1 ++ r)) = (x, some r) := by
  have hx := x.2
  rw [idT, dif_pos (by simp; omega)]
  congr 1
  · apply Subtype.ext
    simp only
    exact List.take_left' hx
  · rw [List.drop_left' hx]
theorem idT_raw (s : RS) : (rawT 32 s).2 = (idT s).2 := by
  cases s with
  | none => rfl
  | some l =>
    simp only [rawT, idT]
    split <;> rfl
theorem idT_some {l : List UInt8} (h : 32 ≤ l.length) : idT (some l) = (⟨l.take 32, by rw [List.length_take]; omega⟩, some (l.drop 32)) := by rw [idT, dif_pos h]
theorem idT_short {l : List UInt8} (h : ¬ 32 ≤ l.length) : idT (some l) = (idz, none) := by rw [idT, dif_neg h]
theorem idsN_spec : ∀ (n : Nat) {s : RS} {r : List UInt8}, (idsN n s).2 = some r → s = some (idsB (idsN n s).1 ++ r) ∧ (idsN n s).1.length = n
  | 0, s, r, h => ⟨h, rfl⟩
  | n + 1, s, r, h => by
    rw [idsN] at h ⊢
    cases hi : (idT s).2 with
    | none => rw [hi] at h; cases h
    | some q =>
      rw [hi] at h
      obtain ⟨h1, h2⟩ := idsN_spec n h
      refine ⟨(idT_spec hi).trans ?_, by simp only [List.length_cons, h2]⟩
      simp only [idsB, List.flatMap_cons, List.append_assoc]
      have := Option.some.inj h1
      rw [idsB] at this
      rw [← this]
theorem idsN_len : ∀ (n : Nat) (s : RS), (idsN n s).1.length ≤ n
  | 0, s => Nat.le_refl _
  | n + 1, s => by
    rw [idsN]
    cases (idT s).2 with
    | none => simp
    | some r => have := idsN_len n (some r); simp only [List.length_cons]; omega
theorem idsN_app (r : List UInt8) : ∀ l : List Id, idsN l.length (some (idsB l ++ r)) = (l, some r)
  | [] => rfl
  | x :: l => by
    rw [List.length_cons, idsN]
    have : idsB (x :: l) ++ r = x.1 ++ (idsB l ++ r) := by simp [idsB]
    rw [this, idT_app]
    simp only
    rw [idsN_app r l]
theorem idsT_spec {most : Nat} {s : RS} {r : List UInt8} (h : (idsT most s).2 = some r) : s = some (nM (idsT most s).1.length ++ (idsB (idsT most s).1 ++ r)) ∧ (idsT most s).1.length ≤ most := by
  unfold idsT at h ⊢
  cases hq : (idsN (numT most s).1 (numT most s).2).2 with
  | none => rw [hq] at h; cases h
  | some q =>
    rw [hq] at h
    cases h
    obtain ⟨h1, h2⟩ := idsN_spec _ hq
    have h3 := numT_spec h1
    simp only
    rw [h2]
    exact ⟨h3, numT_le most s⟩
theorem idsT_app {most : Nat} {l : List Id} (h : l.length ≤ most) (r : List UInt8) : idsT most (some (nM l.length ++ (idsB l ++ r))) = (l, some r) := by
  rw [idsT, numT_nM h, idsN_app]
theorem idsT_le (most : Nat) (s : RS) : (idsT most s).1.length ≤ most := by
  cases h : (idsT most s).2 with
  | some r => exact (idsT_spec h).2
  | none =>
    unfold idsT at h ⊢
    cases hq : (idsN (numT most s).1 (numT most s).2).2 with
    | none => simp
    | some q => rw [hq] at h; cases h
end Go.Proofs.Ytionnlckjjojnaa
namespace Go.Proofs.Ytionnlckjjojnaa
open Go.RowKit
set_option linter.unusedVariables false

/-- A reader: a block with what is left (bytes of the blocks R) and whether it is good (or bad). -/
def eRd (t : TypeId) (good : Bool) (g : Nat) (R : Nat → Prop) (s : RS) : Ent where
  own k := k = g
  rd k := R k
  holds w := ¬ R g ∧ (∀ k, R k → ∃ o : Obj, w.heap[k]? = some o ∧ o.isCells = true) ∧ ∃ A n c, (∀ k, Ft A n k → R k) ∧ Blk w g t #[.slice A n c, .bool (s.isSome == good)] ∧ Sl w A n c 1 (u8s (s.getD []))
  isC := true
  lt h k hk := by
    rcases hk with rfl | hk
    · obtain ⟨_, _, A, n, c, _, hb, _⟩ := h
      exact hb.lt
    · obtain ⟨o, ho, _⟩ := h.2.1 k hk
      exact (Array.getElem?_eq_some_iff.1 ho).1
  keep h hs hd := by
    obtain ⟨h1, h2, A, n, c, h3, hb, hl⟩ := h
    refine ⟨h1, fun k hk => ?_, A, n, c, h3, hb.step hs (hd _ (.inl rfl)), hl.step hs fun k hk => hd k (.inr (h3 k hk))⟩
    obtain ⟨o, ho, hc⟩ := h2 k hk
    exact ⟨o, (hs.block k (Array.getElem?_eq_some_iff.1 ho).1 (hd k (.inr hk))).trans ho, hc⟩
  cel _ w h k hk o ho := by
    rcases hk with rfl | hk
    · obtain ⟨_, _, A, n, c, _, hb, _⟩ := h
      exact hb.isCells ho
    · obtain ⟨o', ho', hc⟩ := h.2.1 k hk
      rw [ho] at ho'
      cases ho'
      exact hc
instance Calm.rd (t : TypeId) (good : Bool) (g : Nat) (R : Nat → Prop) (s : RS) (L : List Ent) [k : Calm L] : Calm (eRd t good g R s :: L) := Calm.cons' rfl k

class SlotR (L : List Ent) (g : Nat) (t : outParam TypeId) (good : outParam Bool) (R : outParam (Nat → Prop)) (s : outParam RS) (F : outParam (List Ent)) : Prop where
  perm : L.Perm (eRd t good g R s :: F)
instance (priority := high) SlotR.hit (t : TypeId) (good : Bool) (g : Nat) (R : Nat → Prop) (s : RS) (L : List Ent) : SlotR (eRd t good g R s :: L) g t good R s L := ⟨.refl _⟩
instance SlotR.miss (x : Ent) (t : TypeId) (good : Bool) (g : Nat) (R : Nat → Prop) (s : RS) (L F : List Ent) [h : SlotR L g t good R s F] : SlotR (x :: L) g t good R s (x :: F) := ⟨(h.perm.cons x).trans (.swap _ _ _)⟩

section
variable {S : Nat → Prop} {w0 w w' : World} {L F : List Ent} {t : TypeId} {good : Bool} {g : Nat} {R : Nat → Prop} {s : RS}
theorem St.rdr (h : St S w0 w L) (g : Nat) {t : TypeId} {good : Bool} {R : Nat → Prop} {s : RS} [k : SlotR L g t good R s F] : (eRd t good g R s).holds w := (h.perm k.perm).holds _ List.mem_cons_self
/-- The reader's two cells, and the bytes. -/
theorem St.rdBlk (h : St S w0 w L) (g : Nat) {t : TypeId} {good : Bool} {R : Nat → Prop} {s : RS} [k : SlotR L g t good R s F] : ∃ A n c, Blk w g t #[.slice A n c, .bool (s.isSome == good)] ∧ Sl w A n c 1 (u8s (s.getD [])) ∧ (∀ k, Ft A n k → R k) ∧ ¬ R g := by
  obtain ⟨h1, _, A, n, c, h2, h3, h4⟩ := h.rdr g (k := k)
  exact ⟨A, n, c, h3, h4, h2, h1⟩
/-- What a part reads may be read beside it. -/
theorem St.addRd2 {e : Ent} (h : St S w0 w L) [k : Slot L e F] (x : Ent) (hx : x.holds w) (ho : ∀ k, ¬ x.own k) (hr : ∀ k, x.rd k → e.rd k ∧ ¬ e.own k) : St S w0 w (x :: L) := by
  have hp := List.pairwise_cons.1 (h.perm k.perm).apart
  refine ⟨h.step, fun y hy => ?_, fun y hy k hk => ?_, List.pairwise_cons.2 ⟨fun y hy k => ⟨fun hk => (ho k hk).elim, fun hk hyk => ?_⟩, h.apart⟩⟩
  · rcases List.mem_cons.1 hy with rfl | hy
    · exact hx
    · exact h.holds y hy
  · rcases List.mem_cons.1 hy with rfl | hy
    · exact (ho k hk).elim
    · exact h.foot y hy k hk
  · obtain ⟨h1, h2⟩ := hr k hk
    rcases List.mem_cons.1 (‹Slot L e F›.perm.mem_iff.1 hy) with rfl | hy
    · exact h2 hyk
    · exact (hp.1 y hy k).2 h1 hyk
/-- A part that owns nothing and reads nothing. -/
theorem St.reading0 (h : St S w0 w L) (x : Ent) (hx : x.holds w) (ho : ∀ k, ¬ x.own k) (hr : ∀ k, ¬ x.rd k) : St S w0 w (x :: L) := h.addRd x hx ho (fun k hk => (hr k hk).elim)
/-- The reader turned, in its own block. -/
theorem St.setRd (h : St S w0 w L) (g : Nat) {t : TypeId} {good : Bool} {R : Nat → Prop} {s s' : RS} [k : SlotR L g t good R s F] (hs : Step (fun k => k = g) w w') {A : Option Addr} {n c : Nat}
    (hA : ∀ k, Ft A n k → R k) (hb : Blk w' g t #[.slice A n c, .bool (s'.isSome == good)]) (hl : Sl w' A n c 1 (u8s (s'.getD []))) : St S w0 w' (eRd t good g R s' :: F) := by
  have h1 := h.perm k.perm
  have hp := List.pairwise_cons.1 h1.apart
  have hr := h.rdr g (k := k)
  refine ⟨h1.step.trans hs (fun i hi hk => ?_), fun y hy => ?_, fun y hy k hk => ?_, List.pairwise_cons.2 ⟨fun y hy k => hp.1 y hy k, hp.2⟩⟩
  · rcases h1.foot _ List.mem_cons_self i hk with h2 | h2
    · exact h2
    · omega
  · rcases List.mem_cons.1 hy with rfl | hy
    · refine ⟨hr.1, fun k hk => ?_, A, n, c, hA, hb, hl⟩
      obtain ⟨o, ho, hc⟩ := hr.2.1 k hk
      exact ⟨o, (hs.block k (Array.getElem?_eq_some_iff.1 ho).1 (fun e => hr.1 (e ▸ hk))).trans ho, hc⟩
    · exact y.keep (h1.holds y (List.mem_cons_of_mem _ hy)) hs (fun k hk he => (hp.1 y hy k).1 he hk)
  · rcases List.mem_cons.1 hy with rfl | hy
    · exact h1.foot _ List.mem_cons_self k hk
    · exact h1.foot y (List.mem_cons_of_mem _ hy) k hk
/-- A row read from here on, and owned no more. -/
theorem St.release (h : St S w0 w L) (A : Option Addr) {e : TypeId} {sz n c : Nat} {xs : List Value} [k : SlotO L A e sz n c xs F] (hsz : 0 < sz) : St S w0 w (eSl A n c sz xs :: F) := by
  have h1 := h.perm k.perm
  have hp := List.pairwise_cons.1 h1.apart
  refine ⟨h1.step, fun y hy => ?_, fun y hy k hk => ?_, List.pairwise_cons.2 ⟨fun y hy k => ⟨fun hk => hk.elim, fun hk hyk => ?_⟩, hp.2⟩⟩
  · rcases List.mem_cons.1 hy with rfl | hy
    · exact ⟨hsz, (h.row A (k := k)).sl⟩
    · exact h1.holds y (List.mem_cons_of_mem _ hy)
  · rcases List.mem_cons.1 hy with rfl | hy
    · exact hk.elim
    · exact h1.foot y (List.mem_cons_of_mem _ hy) k hk
  · exact (hp.1 y hy k).1 hk.2 (.inl hyk)
/-- A new reader over bytes that are read. -/
theorem St.newRd (h : St S w0 w L) (g : Nat) {t : TypeId} {good : Bool} {A : Option Addr} {n c : Nat} {l : List UInt8} {F2 : List Ent} [k : SlotB L g t [.slice A n c, .bool good] F] [k2 : Slot F (eSl A n c 1 (u8s l)) F2] : St S w0 w (eRd t good g (Ft A n) (some l) :: F) := by
  have h1 := h.perm k.perm
  have hp := List.pairwise_cons.1 h1.apart
  have hm : eSl A n c 1 (u8s l) ∈ F := k2.perm.mem_iff.2 List.mem_cons_self
  have hsl := h1.holds _ (List.mem_cons_of_mem _ hm)
  have hb := h.blk g (k := k)
  refine ⟨h1.step, fun y hy => ?_, fun y hy k hk => ?_, List.pairwise_cons.2 ⟨fun y hy k => ⟨(hp.1 y hy k).1, fun hk hyk => ?_⟩, hp.2⟩⟩
  · rcases List.mem_cons.1 hy with rfl | hy
    · refine ⟨fun hg => ((hp.1 _ hm g).1 rfl) (.inr hg), fun k hk => ?_, A, n, c, fun k hk => hk, by simpa using hb, hsl.2⟩
      have hlt := hsl.2.ft_lt hsl.1 hk
      exact ⟨w.heap[k], Array.getElem?_eq_getElem hlt, (eSl A n c 1 (u8s l)).cel rfl hsl k (.inr hk) _ (Array.getElem?_eq_getElem hlt)⟩
    · exact h1.holds y (List.mem_cons_of_mem _ hy)
  · rcases List.mem_cons.1 hy with rfl | hy
    · exact h1.foot _ List.mem_cons_self k hk
    · exact h1.foot y (List.mem_cons_of_mem _ hy) k hk
  · have hp2 := List.pairwise_cons.1 ((List.Perm.pairwise_iff (fun {x y} hxy k => ⟨fun hy hx => by
      rcases hx with hx | hx
      · exact (hxy k).1 hx (.inl hy)
      · exact (hxy k).2 hx hy, fun hy hx => (hxy k).1 hx (.inr hy)⟩) k2.perm).1 hp.2)
    rcases List.mem_cons.1 (k2.perm.mem_iff.1 hy) with rfl | hy
    · exact hyk
    · exact (hp2.1 y hy k).2 hk hyk
end

/-- A reader whose slice is named. -/
def eRo (t : TypeId) (g : Nat) (R : Nat → Prop) (A : Option Addr) (n c : Nat) (b : Bool) (l : List UInt8) : Ent where
  own k := k = g
  rd k := R k
  holds w := ¬ R g ∧ (∀ k, R k → ∃ o : Obj, w.heap[k]? = some o ∧ o.isCells = true) ∧ (∀ k, Ft A n k → R k) ∧ Blk w g t #[.slice A n c, .bool b] ∧ Sl w A n c 1 (u8s l)
  isC := true
  lt h k hk := by
    rcases hk with rfl | hk
    · exact h.2.2.2.1.lt
    · obtain ⟨o, ho, _⟩ := h.2.1 k hk
      exact (Array.getElem?_eq_some_iff.1 ho).1
  keep h hs hd := by
    obtain ⟨h1, h2, h3, hb, hl⟩ := h
    refine ⟨h1, fun k hk => ?_, h3, hb.step hs (hd _ (.inl rfl)), hl.step hs fun k hk => hd k (.inr (h3 k hk))⟩
    obtain ⟨o, ho, hc⟩ := h2 k hk
    exact ⟨o, (hs.block k (Array.getElem?_eq_some_iff.1 ho).1 (hd k (.inr hk))).trans ho, hc⟩
  cel _ w h k hk o ho := by
    rcases hk with rfl | hk
    · exact h.2.2.2.1.isCells ho
    · obtain ⟨o', ho', hc⟩ := h.2.1 k hk
      rw [ho] at ho'
      cases ho'
      exact hc
instance Calm.ro (t : TypeId) (g : Nat) (R : Nat → Prop) (A : Option Addr) (n c : Nat) (b : Bool) (l : List UInt8) (L : List Ent) [k : Calm L] : Calm (eRo t g R A n c b l :: L) := Calm.cons' rfl k
class SlotRo (L : List Ent) (g : Nat) (t : outParam TypeId) (R : outParam (Nat → Prop)) (A : outParam (Option Addr)) (n c : outParam Nat) (b : outParam Bool) (l : outParam (List UInt8)) (F : outParam (List Ent)) : Prop where
  perm : L.Perm (eRo t g R A n c b l :: F)
instance (priority := high) SlotRo.hit (t : TypeId) (g : Nat) (R : Nat → Prop) (A : Option Addr) (n c : Nat) (b : Bool) (l : List UInt8) (L : List Ent) : SlotRo (eRo t g R A n c b l :: L) g t R A n c b l L := ⟨.refl _⟩
instance SlotRo.miss (x : Ent) (t : TypeId) (g : Nat) (R : Nat → Prop) (A : Option Addr) (n c : Nat) (b : Bool) (l : List UInt8) (L F : List Ent) [h : SlotRo L g t R A n c b l F] : SlotRo (x :: L) g t R A n c b l (x :: F) := ⟨(h.perm.cons x).trans (.swap _ _ _)⟩
instance (priority := high) HasSl.ro (t : TypeId) (g : Nat) (R : Nat → Prop) (A : Option Addr) (n c : Nat) (b : Bool) (l : List UInt8) (L : List Ent) : HasSl (eRo t g R A n c b l :: L) A n c 1 (u8s l) := ⟨fun w h => (h (eRo t g R A n c b l) List.mem_cons_self).2.2.2.2⟩
section
variable {S : Nat → Prop} {w0 w w' : World} {L F : List Ent} {t : TypeId} {good : Bool} {g : Nat} {R : Nat → Prop} {s : RS}
/-- One part said otherwise, its blocks as they were. -/
theorem St.resay {e : Ent} (h : St S w0 w (e :: F)) (e' : Ent) (hx : e'.holds w) (ho : ∀ k, e'.own k ↔ e.own k) (hr : ∀ k, e'.rd k → e.rd k) : St S w0 w (e' :: F) := by
  have hp := List.pairwise_cons.1 h.apart
  refine ⟨h.step, fun y hy => ?_, fun y hy k hk => ?_, List.pairwise_cons.2 ⟨fun y hy k => ⟨fun hk => (hp.1 y hy k).1 ((ho k).1 hk), fun hk => (hp.1 y hy k).2 (hr k hk)⟩, hp.2⟩⟩
  · rcases List.mem_cons.1 hy with rfl | hy
    · exact hx
    · exact h.holds y (List.mem_cons_of_mem _ hy)
  · rcases List.mem_cons.1 hy with rfl | hy
    · exact h.foot e List.mem_cons_self k ((ho k).1 hk)
    · exact h.foot y (List.mem_cons_of_mem _ hy) k hk
theorem St.rdOpen (h : St S w0 w L) (g : Nat) {t : TypeId} {good : Bool} {R : Nat → Prop} {s : RS} [k : SlotR L g t good R s F] : ∃ A n c, St S w0 w (eRo t g R A n c (s.isSome == good) (s.getD []) :: F) := by
  have h' := h.perm k.perm
  obtain ⟨h1, h2, A, n, c, h3, h4, h5⟩ := h.rdr g (k := k)
  exact ⟨A, n, c, h'.resay _ ⟨h1, h2, h3, h4, h5⟩ (fun _ => Iff.rfl) (fun _ hk => hk)⟩
theorem St.ro (h : St S w0 w L) (g : Nat) {t : TypeId} {R : Nat → Prop} {A : Option Addr} {n c : Nat} {b : Bool} {l : List UInt8} [k : SlotRo L g t R A n c b l F] : (eRo t g R A n c b l).holds w := (h.perm k.perm).holds _ List.mem_cons_self
theorem St.roBlk (h : St S w0 w L) (g : Nat) {t : TypeId} {R : Nat → Prop} {A : Option Addr} {n c : Nat} {b : Bool} {l : List UInt8} [k : SlotRo L g t R A n c b l F] : Blk w g t #[.slice A n c, .bool b] := (h.ro g (k := k)).2.2.2.1
theorem St.roSl (h : St S w0 w L) (g : Nat) {t : TypeId} {R : Nat → Prop} {A : Option Addr} {n c : Nat} {b : Bool} {l : List UInt8} [k : SlotRo L g t R A n c b l F] : Sl w A n c 1 (u8s l) := (h.ro g (k := k)).2.2.2.2
/-- Shut as a reader. -/
theorem St.rdShut (h : St S w0 w L) (g : Nat) {t : TypeId} {R : Nat → Prop} {A : Option Addr} {n c : Nat} {b : Bool} {l : List UInt8} [k : SlotRo L g t R A n c b l F] (good : Bool) (s : RS) (hb : (s.isSome == good) = b) (hl : s.getD [] = l) : St S w0 w (eRd t good g R s :: F) := by
  have h' := h.perm k.perm
  obtain ⟨h1, h2, h3, h4, h5⟩ := h.ro g (k := k)
  subst hb hl
  exact h'.resay (eRd t good g R s) ⟨h1, h2, A, n, c, h3, h4, h5⟩ (fun _ => Iff.rfl) (fun _ hk => hk)
/-- The reader turned, in its own block. -/
theorem St.setRo (h : St S w0 w L) (g : Nat) {t : TypeId} {R : Nat → Prop} {A0 : Option Addr} {n0 c0 : Nat} {b0 : Bool} {l0 : List UInt8} [k : SlotRo L g t R A0 n0 c0 b0 l0 F] (hs : Step (fun k => k = g) w w') {A : Option Addr} {n c : Nat} {b : Bool} {l : List UInt8}
    (hA : ∀ k, Ft A n k → R k) (hb : Blk w' g t #[.slice A n c, .bool b]) (hl : Sl w A n c 1 (u8s l)) : St S w0 w' (eRo t g R A n c b l :: F) := by
  have h1 := h.perm k.perm
  have hp := List.pairwise_cons.1 h1.apart
  have hr := h.ro g (k := k)
  refine ⟨h1.step.trans hs (fun i hi hk => ?_), fun y hy => ?_, fun y hy k hk => ?_, List.pairwise_cons.2 ⟨fun y hy k => hp.1 y hy k, hp.2⟩⟩
  · rcases h1.foot _ List.mem_cons_self i hk with h2 | h2
    · exact h2
    · omega
  · rcases List.mem_cons.1 hy with rfl | hy
    · refine ⟨hr.1, fun k hk => ?_, hA, hb, hl.step hs fun k hk e => hr.1 (e ▸ hA k hk)⟩
      obtain ⟨o, ho, hc⟩ := hr.2.1 k hk
      exact ⟨o, (hs.block k (Array.getElem?_eq_some_iff.1 ho).1 (fun e => hr.1 (e ▸ hk))).trans ho, hc⟩
    · exact y.keep (h1.holds y (List.mem_cons_of_mem _ hy)) hs (fun k hk he => (hp.1 y hy k).1 he hk)
  · rcases List.mem_cons.1 hy with rfl | hy
    · exact h1.foot _ List.mem_cons_self k hk
    · exact h1.foot y (List.mem_cons_of_mem _ hy) k hk
/-- A piece of what the reader reads, beside it. -/
theorem St.roPiece (h : St S w0 w L) (g : Nat) {t : TypeId} {R : Nat → Prop} {A0 : Option Addr} {n0 c0 : Nat} {b0 : Bool} {l0 : List UInt8} [k : SlotRo L g t R A0 n0 c0 b0 l0 F] {A : Option Addr} {n c : Nat} {l : List UInt8} (hA : ∀ k, Ft A n k → R k) (hl : Sl w A n c 1 (u8s l)) : St S w0 w (eSl A n c 1 (u8s l) :: L) :=
  h.addRd2 (k := ⟨k.perm⟩) (eSl A n c 1 (u8s l)) ⟨by omega, hl⟩ (fun _ hk => hk) fun i hk => ⟨hA i hk, fun e => (h.ro g (k := k)).1 (show R g from by have e' : i = g := e; subst e'; exact hA i hk)⟩
end
/-- s[k:] of bytes. -/
theorem Sl.drop1 {w : World} {A : Option Addr} {n c : Nat} {l : List UInt8} (h : Sl w A n c 1 (u8s l)) {i : Nat} (hi : i ≤ n) : Sl w (if c = i then A else A.map (·.add i)) (n - i) (c - i) 1 (u8s (l.drop i)) := by
  have := h.drop hi
  rwa [Nat.mul_one, u8s_drop] at this
theorem Sl.take1 {w : World} {A : Option Addr} {n c : Nat} {l : List UInt8} (h : Sl w A n c 1 (u8s l)) {j : Nat} (hj : j ≤ n) : Sl w A j c 1 (u8s (l.take j)) := by
  have := h.take (j := j) (m := c) hj (Nat.le_refl _) (Nat.le_trans hj h.le)
  rwa [Nat.mul_one, u8s_take] at this
end Go.Proofs.Ytionnlckjjojnaa
namespace Go.Proofs.Ytionnlckjjojnaa
open Go.RowKit
set_option linter.unusedVariables false

theorem Loose.keeps {B : Nat} {w w' : World} (h : Loose B w w') (K : Nat → Prop) : Keeps K w w' :=
  ⟨h.size, fun k o _ ho hc => (h.block k (Array.getElem?_eq_some_iff.1 ho).1 (fun ⟨_, o', ho', hc'⟩ => by
    rw [ho] at ho'
    cases ho'
    rw [hc] at hc'
    cases hc')).trans ho⟩
theorem Loose.mono {B B' : Nat} {w w' : World} (h : Loose B w w') (hB : B' ≤ B) : Loose B' w w' := Step.mono h fun _ _ hk => ⟨Nat.le_trans hB hk.1, hk.2⟩
/-- While the loop goes: its record lies behind the block D of the rounds' deferred calls. -/
structure Going (D : Nat) (r : Loop) (W : World) : Prop where
  loop : W.heap[D + 1]? = some (.loop r)
  dfr : W.heap[D]? = some (.deferred (some []))
section
variable {D : Nat} {r : Loop} {W W' : World}
theorem Going.lt (h : Going D r W) : D + 1 < W.heap.size := (Array.getElem?_eq_some_iff.1 h.loop).1
theorem Going.keep (h : Going D r W) (k : KeepsFrom D W W') : Going D r W' := ⟨k.same _ _ (by omega) h.loop rfl, k.same _ _ (Nat.le_refl _) h.dfr rfl⟩
theorem Going.step (h : Going D r W) (k : Step (fun _ => False) W W') : Going D r W' := h.keep (k.keepsFrom (fun _ _ h => h.elim))
theorem Going.put (h : Going D r W) (r' : Loop) : Going D r' (W.putObj (D + 1) (.loop r')) := ⟨World.putObj_heap_same h.lt, (World.putObj_heap_other (by omega)).trans h.dfr⟩
theorem Going.loose (h : Going D r W) (r' : Loop) : Loose D W (W.putObj (D + 1) (.loop r')) := loose_put (o := .loop r) _ (by omega) h.loop rfl
end
/-- How a round's body is left. -/
def leftBy (D : Nat) (J : World → Prop) (Jx : Code → World → Prop) (W : World) : Exit → Act → World → Prop
  | .normal, _, W' => KeepsFrom D W W' ∧ J W'
  | .ret, _, W' => KeepsFrom D W W' ∧ Jx .ret W'
  | .exit id, _, W' => KeepsFrom D W W' ∧ Jx (.exit id) W'
  | .goto t, _, W' => KeepsFrom D W W' ∧ Jx (.goto t) W'
  | .panic _, _, _ => False
  | .outgrown, _, _ => False
section
variable {P : Program}
/-- One round. -/
theorem yield_going {F : Fence} {n : Nat} {D : Nat} {r : Loop} {args : Array Value} {W : World} {J : World → Prop} {Jx : Code → World → Prop} (hfn : F.fn r.fn) (hG : Going D r W) (hr : r.state = .ready) (hsz : args.size = r.params.size) (a₁ : Act)
    (hassign : ∀ M : Act → World → Prop, M a₁ W → r.assign.wpIn (F.inRound (D + 1)) n P (Exit.then M (fun _ _ _ => False)) { tmps := (r.params.zip args).foldl (fun t (p, v) => t.setIfInBounds p v) r.tmps, defers := [] } W)
    (hbody : ∀ W2, Loose D W W2 → r.body.wpIn (F.inRound (D + 1)) n P (leftBy D J Jx W2) a₁ W2) :
    YieldAt F n P (D + 1) args W fun e W' => (e = .returned (.bool true) ∧ ∃ W3, J W3 ∧ Loose D W3 W' ∧ Going D { r with state := .ready, pending := none } W') ∨
      (e = .returned (.bool false) ∧ ∃ c W3, Jx c W3 ∧ Loose D W3 W' ∧ Going D { r with state := .done, pending := some c } W') := by
  refine ⟨_, _, _, _, run_yield hG.loop hsz, roundIn_of_wpIn hfn (hassign _ ⟨_, run_beginRound hG.loop hr, wpIn_mono (hbody _ (hG.loose _)) ?_⟩)⟩
  have hB := hG.put { r with state := .busy }
  have stop : ∀ (c : Code) (W3 : World), KeepsFrom D (W.putObj (D + 1) (.loop { r with state := .busy })) W3 → Jx c W3 → ∃ v w', (Instr.endRound (D + 1) (some c)).run P W3 = .ok v w' ∧
      (((Ending.returned v : Ending) = .returned (.bool true) ∧ ∃ W3, J W3 ∧ Loose D W3 w' ∧ Going D { r with state := .ready, pending := none } w') ∨
        ((Ending.returned v : Ending) = .returned (.bool false) ∧ ∃ c W3, Jx c W3 ∧ Loose D W3 w' ∧ Going D { r with state := .done, pending := some c } w')) := fun c W3 hk hj =>
    ⟨_, _, run_endRound (some c) (hB.keep hk).loop, .inr ⟨rfl, c, W3, hj, (hB.keep hk).loose _, (hB.keep hk).put _⟩⟩
  rintro e a3 W3 hp
  cases e with
  | normal => exact ⟨_, _, run_endRound none (hB.keep hp.1).loop, .inl ⟨rfl, W3, hp.2, (hB.keep hp.1).loose _, (hB.keep hp.1).put _⟩⟩
  | ret => exact stop .ret W3 hp.1 hp.2
  | exit id => exact stop (.exit id) W3 hp.1 hp.2
  | goto t => exact stop (.goto t) W3 hp.1 hp.2
  | panic ch => exact hp.elim
  | outgrown => exact hp.elim

/-- An iterator without an end: before each round it lays what C says, and wants K x kept behind it. -/
def Ever {α : Type} (P : Program) (g : Nat) (lb : Array Value) (encs : α → Array Value) (C : Nat → α → World → World → Prop) (K : α → Nat → Prop) (M : Nat) (w : World) : Prop :=
  ∀ (n l : Nat) (J Jx : Nat → World → Prop) (W : World), Below w.heap.size w W → (∀ k W, J k W → k ≤ M) →
    (∀ k x W0 W1, J k W0 → Step (fun _ => False) W0 W1 → C k x W0 W1 → YieldAt Fence.wide (n - 1) P l (encs x) W1 fun e W' =>
      (e = .returned (.bool true) ∧ J (k + 1) W' ∧ Keeps (K x) W1 W') ∨ (e = .returned (.bool false) ∧ Jx (k + 1) W')) →
    J 0 W → CallsIn Fence.wide n P g (#[.func (.yield l) #[] #[]] ++ lb) W fun e W' => (∃ v, e = .returned v) ∧ ∃ k, Jx k W'

theorem wp_range_ever {α : Type} {g : Operand} {ps : Array Tmp} {assign body : Code} {Q : Exit → Act → World → Prop} {a : Act} {w : World} {gf : Nat} {lb : Array Value} (hg : a.eval g = .func (.func gf) #[] lb)
    (eg : ∀ args w, (callFunc gf args).run P w = .ok (.enter gf args) w) {encs : α → Array Value} {C : Nat → α → World → World → Prop} {K : α → Nat → Prop} {M : Nat} (hseq : Ever P gf lb encs C K M w) (hps : ∀ x, (encs x).size = ps.size)
    (I : Nat → World → Prop) (Ix : Code → Nat → World → Prop) (hI : ∀ k w1 w2, I k w1 → Loose w.heap.size w1 w2 → I k w2) (hIx : ∀ c k w1 w2, Ix c k w1 → Loose w.heap.size w1 w2 → Ix c k w2) (hM : ∀ k W, I k W → k ≤ M) (h0 : I 0 w) (a₁ : α → Act)
    (hassign : ∀ (l : Nat) (x : α) (W : World) (K : Act → World → Prop), K (a₁ x) W →
      assign.wpIn (Fence.wide.inRound l) 1 P (Exit.then K (fun _ _ _ => False)) { tmps := (ps.zip (encs x)).foldl (fun t (p, v) => t.setIfInBounds p v) a.tmps, defers := [] } W)
    (hbody : ∀ (l k : Nat) (x : α) (W0 W1 W2 : World), I k W0 → Step (fun _ => False) W0 W1 → C k x W0 W1 → Loose w.heap.size W1 W2 →
      body.wpIn (Fence.wide.inRound l) 1 P (leftBy w.heap.size (fun W' => Keeps (K x) W2 W' ∧ I (k + 1) W') (fun c W' => Ix c (k + 1) W') W2) (a₁ x) W2)
    (hstop : ∀ (D : Nat) (c : Code) (k : Nat) (W : World), w.heap.size ≤ D → Ix c k W → W.heap[D]? = some (.deferred (some [])) → c.wp P Q { a with defers := { target := .collected D, args := #[] } :: a.defers } W) :
    (Code.rangeFunc g ps assign body).wp P Q a w := by
  refine (wpIn_wide (n := 3)).1 (wpIn_rangeFunc fun fn hfn => ?_)
  obtain ⟨r, hr⟩ : ∃ r : Loop, r = { state := .ready, pending := none, fn, tmps := a.tmps, params := ps, assign, body, defers := w.heap.size } := ⟨_, rfl⟩
  have hla : Loose w.heap.size w ((w.alloc (.deferred (some []))).alloc (.loop r)) := ((Step.refl _ _).alloc _).alloc _
  have hG : Going w.heap.size r ((w.alloc (.deferred (some []))).alloc (.loop r)) :=
    ⟨by have := World.alloc_heap_new (w.alloc (.deferred (some []))) (.loop r); rwa [World.size_alloc] at this, (Below.heap_alloc _ _ _ (by simp)).trans (World.alloc_heap_new w _)⟩
  have hI0 := hI _ _ _ h0 hla
  have hbel : Below w.heap.size w ((w.alloc (.deferred (some []))).alloc (.loop r)) := ((Below.refl _ w).alloc (Nat.le_refl _) _).alloc (by simp) _
  have hent := run_enterLoop_outer (P := P) (w := w) fn a.tmps ps assign body
  rw [← hr] at hent
  generalize (w.alloc (.deferred (some []))).alloc (.loop r) = W1 at *
  refine ⟨w.heap.size + 1, [{ target := .collected w.heap.size, args := #[] }], W1, { target := .fn (.func gf) lb, args := #[.func (.yield (w.heap.size + 1)) #[] #[]] }, W1, gf, #[.func (.yield (w.heap.size + 1)) #[] #[]] ++ lb, W1,
    hent, by simp only [resolve, hg]; simp [go_sem], fun f' hf' => trivial, by simp [invoke, go_sem, eg], fun _ => by omega, ?_⟩
  refine (hseq 2 (w.heap.size + 1) (fun k W => I k W ∧ Going w.heap.size r W) (fun k W => ∃ c, Ix c k W ∧ Going w.heap.size { r with state := .done, pending := some c } W) W1 hbel (fun k W h => hM k W h.1) ?_ ⟨hI0, hG⟩).mono ?_
  · rintro k x W0 W1 ⟨hi, hg0⟩ hst hC
    have hg1 := hg0.step hst
    refine YieldAt.mono (yield_going (J := fun W' => ∃ W2, Loose w.heap.size W1 W2 ∧ Keeps (K x) W2 W' ∧ I (k + 1) W') (Jx := fun c W' => Ix c (k + 1) W') (by rw [hr]; exact hfn) hg1 (by rw [hr]) (by rw [hr]; exact hps x) (a₁ x) ?_ ?_) ?_
    · intro M hM
      rw [hr]
      exact hassign _ x W1 M hM
    · intro W2 hl2
      rw [hr]
      refine wpIn_mono (hbody _ k x W0 W1 W2 hi hst hC hl2) ?_
      intro e a' W' hp
      cases e <;> first | exact hp.elim | exact ⟨hp.1, W2, hl2, hp.2⟩ | exact hp
    · rintro e W' (⟨rfl, W3, ⟨W2, hl2, hk, hi3⟩, hl3, hg3⟩ | ⟨rfl, c, W3, hx, hl3, hg3⟩)
      · refine .inl ⟨rfl, ⟨hI _ _ _ hi3 hl3, ?_⟩, (hl2.keeps _).trans (hk.trans (hl3.keeps _))⟩
        rw [hr] at hg3 ⊢
        exact hg3
      · exact .inr ⟨rfl, c, hIx _ _ _ _ hx hl3, hg3⟩
  · rintro e W2 ⟨⟨v, rfl⟩, k, c, hx, hg2⟩
    exact ⟨some c, _, run_endLoop hg2.loop (by simp), wpIn_wide.2 (hstop _ c k _ (Nat.le_refl _) (hIx _ _ _ _ hx (hg2.loose _)) (hg2.put _).dfr)⟩
/-- The same, where the round's slots are named: 'ups x' says what each of them holds. -/
theorem wp_range_ever_at {α : Type} {g : Operand} {ps : Array Tmp} {assign body : Code} {Q : Exit → Act → World → Prop} {a : Act} {w : World} {gf : Nat} {lb : Array Value} (hg : a.eval g = .func (.func gf) #[] lb)
    (eg : ∀ args w, (callFunc gf args).run P w = .ok (.enter gf args) w) {encs : α → Array Value} {C : Nat → α → World → World → Prop} {K : α → Nat → Prop} {M : Nat} (hseq : Ever P gf lb encs C K M w) (hps : ∀ x, (encs x).size = ps.size) (ups : α → List (Nat × Value))
    (I : Nat → World → Prop) (Ix : Code → Nat → World → Prop) (hI : ∀ k w1 w2, I k w1 → Loose w.heap.size w1 w2 → I k w2) (hIx : ∀ c k w1 w2, Ix c k w1 → Loose w.heap.size w1 w2 → Ix c k w2) (hM : ∀ k W, I k W → k ≤ M) (h0 : I 0 w)
    (hassign : ∀ (l : Nat) (x : α) (W : World) (K : Act → World → Prop), K { tmps := (ups x).foldl (fun t p => t.setIfInBounds p.1 p.2) a.tmps, defers := [] } W →
      assign.wpIn (Fence.wide.inRound l) 1 P (Exit.then K (fun _ _ _ => False)) { tmps := (ps.zip (encs x)).foldl (fun t (p, v) => t.setIfInBounds p v) a.tmps, defers := [] } W)
    (hbody : ∀ (l k : Nat) (x : α) (W0 W1 W2 : World), I k W0 → Step (fun _ => False) W0 W1 → C k x W0 W1 → Loose w.heap.size W1 W2 →
      body.wpIn (Fence.wide.inRound l) 1 P (leftBy w.heap.size (fun W' => Keeps (K x) W2 W' ∧ I (k + 1) W') (fun c W' => Ix c (k + 1) W') W2) { tmps := (ups x).foldl (fun t p => t.setIfInBounds p.1 p.2) a.tmps, defers := [] } W2)
    (hstop : ∀ (D : Nat) (c : Code) (k : Nat) (W : World), w.heap.size ≤ D → Ix c k W → W.heap[D]? = some (.deferred (some [])) → c.wp P Q { a with defers := { target := .collected D, args := #[] } :: a.defers } W) :
    (Code.rangeFunc g ps assign body).wp P Q a w :=
  wp_range_ever hg eg hseq hps I Ix hI hIx hM h0 (fun x => { tmps := (ups x).foldl (fun t p => t.setIfInBounds p.1 p.2) a.tmps, defers := [] }) hassign hbody hstop
end
end Go.Proofs.Ytionnlckjjojnaa
namespace Go.Proofs.Ytionnlckjjojnaa
open Go.RowKit
set_option linter.unusedVariables false

/-- Blocks that are left as they are in H. -/
def eOp (O R : Nat → Prop) (H : World) : Ent where
  own := O
  rd := R
  holds w := ∀ i, O i ∨ R i → i < H.heap.size ∧ w.heap[i]? = H.heap[i]?
  isC := false
  lt h k hk := by
    obtain ⟨h1, h2⟩ := h k hk
    rw [Array.getElem?_eq_getElem h1] at h2
    exact (Array.getElem?_eq_some_iff.1 h2).1
  keep h hs hd k hk := by
    obtain ⟨h1, h2⟩ := h k hk
    refine ⟨h1, (hs.block k ?_ (hd k hk)).trans h2⟩
    rw [Array.getElem?_eq_getElem h1] at h2
    exact (Array.getElem?_eq_some_iff.1 h2).1
  cel hc := by cases hc
/-- The loop's own blocks. -/
def eMach (D : Nat) (r : Loop) : Ent where
  own i := i = D ∨ i = D + 1
  rd _ := False
  holds w := Going D r w
  isC := false
  lt h k hk := by
    have := h.lt
    rcases hk with (rfl | rfl) | hk
    · omega
    · exact this
    · exact hk.elim
  keep h hs hd := ⟨(hs.block _ h.lt (hd _ (.inl (.inr rfl)))).trans h.loop, (hs.block _ (by have := h.lt; omega) (hd _ (.inl (.inl rfl)))).trans h.dfr⟩
  cel hc := by cases hc
/-- The block for the rounds' deferred calls. -/
def eDfr (D : Nat) : Ent where
  own i := i = D
  rd _ := False
  holds w := w.heap[D]? = some (.deferred (some []))
  isC := false
  lt h k hk := by
    rcases hk with rfl | hk
    · exact (Array.getElem?_eq_some_iff.1 h).1
    · exact hk.elim
  keep h hs hd := (hs.block _ (Array.getElem?_eq_some_iff.1 h).1 (hd _ (.inl rfl))).trans h
  cel hc := by cases hc
def reads (L : List Ent) (i : Nat) : Prop := ∃ x ∈ L, x.rd i

section
variable {S : Nat → Prop} {w0 w w' : World} {L L' F : List Ent} {X : Ent} {O R O' R' : Nat → Prop}
theorem St.opStep {W0 W1 : World} (h : St S w0 W0 (X :: eOp O R W0 :: L)) (hs : Step O W0 W1) (hO : ∀ i, O' i → (O i ∨ W0.heap.size ≤ i) ∧ i < W1.heap.size) (hR : ∀ i, R' i → (O i ∨ R i ∨ W0.heap.size ≤ i) ∧ i < W1.heap.size) : St S w0 W1 (X :: eOp O' R' W1 :: L) := by
  have hX := h.holds X (by simp)
  have hp := List.pairwise_cons.1 h.apart
  have hp2 := List.pairwise_cons.1 hp.2
  have hXY := hp.1 (eOp O R W0) (by simp)
  have hfO : ∀ i, O i → S i ∨ w0.heap.size ≤ i := fun i hi => h.foot (eOp O R W0) (by simp) i hi
  have hsz := h.step.size
  refine ⟨h.step.trans hs (fun i hi hk => (hfO i hk).resolve_right (by omega)), fun y hy => ?_, fun y hy k hk => ?_, List.pairwise_cons.2 ⟨fun y hy k => ?_, List.pairwise_cons.2 ⟨fun y hy k => ?_, hp2.2⟩⟩⟩
  · rcases List.mem_cons.1 hy with rfl | hy
    · exact y.keep hX hs (fun k hk hk2 => by
        rcases hk with hk | hk
        · exact (hXY k).1 hk (.inl hk2)
        · exact (hXY k).2 hk hk2)
    · rcases List.mem_cons.1 hy with rfl | hy
      · intro i hi
        refine ⟨?_, rfl⟩
        rcases hi with hi | hi
        · exact (hO i hi).2
        · exact (hR i hi).2
      · exact y.keep (h.holds y (by simp [hy])) hs (fun k hk hk2 => (hp2.1 y hy k).1 hk2 hk)
  · rcases List.mem_cons.1 hy with rfl | hy
    · exact h.foot _ (by simp) k hk
    · rcases List.mem_cons.1 hy with rfl | hy
      · rcases (hO k hk).1 with h2 | h2
        · exact hfO k h2
        · exact .inr (by omega)
      · exact h.foot y (by simp [hy]) k hk
  · rcases List.mem_cons.1 hy with rfl | hy
    · refine ⟨fun hx hk => ?_, fun hx hk => ?_⟩
      · have hlt := X.lt hX k (.inl hx)
        rcases hk with hk | hk
        · rcases (hO k hk).1 with h2 | h2
          · exact (hXY k).1 hx (.inl h2)
          · omega
        · rcases (hR k hk).1 with h2 | h2 | h2
          · exact (hXY k).1 hx (.inl h2)
          · exact (hXY k).1 hx (.inr h2)
          · omega
      · have hlt := X.lt hX k (.inr hx)
        rcases (hO k hk).1 with h2 | h2
        · exact (hXY k).2 hx h2
        · omega
    · exact hp.1 y (by simp [hy]) k
  · refine ⟨fun hk hy2 => ?_, fun hk hy2 => ?_⟩
    · have hlt := y.lt (h.holds y (by simp [hy])) k hy2
      rcases (hO k hk).1 with h2 | h2
      · exact (hp2.1 y hy k).1 h2 hy2
      · omega
    · have hlt := y.lt (h.holds y (by simp [hy])) k (.inl hy2)
      rcases (hR k hk).1 with h2 | h2 | h2
      · exact (hp2.1 y hy k).1 h2 (.inl hy2)
      · exact (hp2.1 y hy k).2 h2 hy2
      · omega
/-- Some parts as blocks that are left alone. -/
theorem St.opaque {Li : List Ent} (h : St S w0 w (Li ++ L)) : St S w0 w (eOp (owns Li) (reads Li) w :: L) := by
  have hp := List.pairwise_append.1 h.apart
  refine ⟨h.step, fun y hy => ?_, fun y hy k hk => ?_, List.pairwise_cons.2 ⟨fun y hy k => ⟨fun hk => ?_, fun hk => ?_⟩, hp.2.1⟩⟩
  · rcases List.mem_cons.1 hy with rfl | hy
    · rintro i (⟨x, hx, hi⟩ | ⟨x, hx, hi⟩)
      · exact ⟨x.lt (h.holds x (List.mem_append_left _ hx)) i (.inl hi), rfl⟩
      · exact ⟨x.lt (h.holds x (List.mem_append_left _ hx)) i (.inr hi), rfl⟩
    · exact h.holds y (List.mem_append_right _ hy)
  · rcases List.mem_cons.1 hy with rfl | hy
    · obtain ⟨x, hx, hi⟩ := hk
      exact h.foot x (List.mem_append_left _ hx) k hi
    · exact h.foot y (List.mem_append_right _ hy) k hk
  · obtain ⟨x, hx, hi⟩ := hk
    exact (hp.2.2 x hx y hy k).1 hi
  · obtain ⟨x, hx, hi⟩ := hk
    exact (hp.2.2 x hx y hy k).2 hi
theorem St.own0 {Li : List Ent} (h : St S w0 w (Li ++ L)) : St (owns Li) w w Li := by
  have hp := List.pairwise_append.1 h.apart
  exact ⟨Step.refl _ _, fun x hx => h.holds x (List.mem_append_left _ hx), fun x hx k hk => .inl ⟨x, hx, hk⟩, hp.1⟩
/-- And back. -/
theorem St.unopaque {Li : List Ent} (h : St S w0 w (X :: eOp (owns Li) (reads Li) w' :: L)) (k : St (owns Li) w w Li) : St S w0 w (X :: (Li ++ L)) := by
  have hp := List.pairwise_cons.1 h.apart
  have hp2 := List.pairwise_cons.1 hp.2
  have hXY := hp.1 _ List.mem_cons_self
  refine ⟨h.step, fun y hy => ?_, fun y hy i hi => ?_, List.pairwise_cons.2 ⟨fun y hy i => ?_, List.pairwise_append.2 ⟨k.apart, hp2.2, fun x hx y hy i => ⟨fun hi => (hp2.1 y hy i).1 ⟨x, hx, hi⟩, fun hi => (hp2.1 y hy i).2 ⟨x, hx, hi⟩⟩⟩⟩⟩
  · rcases List.mem_cons.1 hy with rfl | hy
    · exact h.holds _ (by simp)
    · rcases List.mem_append.1 hy with hy | hy
      · exact k.holds y hy
      · exact h.holds y (by simp [hy])
  · rcases List.mem_cons.1 hy with rfl | hy
    · exact h.foot _ (by simp) i hi
    · rcases List.mem_append.1 hy with hy | hy
      · exact h.foot (eOp (owns Li) (reads Li) w') (by simp) i ⟨y, hy, hi⟩
      · exact h.foot y (by simp [hy]) i hi
  · rcases List.mem_append.1 hy with hy | hy
    · refine ⟨fun hx hy2 => (hXY i).1 hx ?_, fun hx hy2 => (hXY i).2 hx ⟨y, hy, hy2⟩⟩
      rcases hy2 with h2 | h2
      · exact .inl ⟨y, hy, h2⟩
      · exact .inr ⟨y, hy, h2⟩
    · exact hp.1 y (by simp [hy]) i
/-- Behind what somebody else has done, the own parts as they were. -/
theorem St.over {Li : List Ent} (h : St S w0 w Li) (hs : Step (fun i => ¬ owns Li i ∧ ¬ reads Li i) w w') : St (owns Li) w' w' Li :=
  ⟨Step.refl _ _, fun x hx => x.keep (h.holds x hx) hs (fun k hk hn => by
    rcases hk with hk | hk
    · exact hn.1 ⟨x, hx, hk⟩
    · exact hn.2 ⟨x, hx, hk⟩), fun x hx k hk => .inl ⟨x, hx, hk⟩, h.apart⟩
theorem St.machStep {D : Nat} {r r' : Loop} (h : St S w0 w (eMach D r :: L)) : St S w0 (w.putObj (D + 1) (.loop r')) (eMach D r' :: L) := by
  have hg : Going D r w := h.holds _ List.mem_cons_self
  refine h.set (e := eMach D r) (k := ⟨.refl _⟩) (eMach D r') ?_ (hg.put r') (fun k hk => .inl hk) (fun _ hk => hk)
  exact ⟨rfl, rfl, rfl, by simp [World.putObj], fun k _ hk => World.putObj_heap_other (fun e => hk (.inr e))⟩
theorem St.machDone {D : Nat} {r : Loop} (h : St S w0 w (eMach D r :: L)) : St S w0 w (eDfr D :: L) :=
  have hg : Going D r w := h.holds _ List.mem_cons_self
  h.recast (e := eMach D r) (k := ⟨.refl _⟩) (eDfr D) hg.dfr (fun k hk => .inl hk) (fun _ hk => hk)
/-- Behind the return. -/
theorem St.putDfr {D : Nat} (h : St S w0 w L) [k : Slot L (eDfr D) F] : St S w0 (w.putObj D (.deferred none)) F := by
  have h1 := h.perm k.perm
  have hp := List.pairwise_cons.1 h1.apart
  have hs : Step (fun i => i = D) w (w.putObj D (.deferred none)) := ⟨rfl, rfl, rfl, by simp [World.putObj], fun k _ hk => World.putObj_heap_other (fun e => hk e)⟩
  refine ⟨h1.step.trans hs (fun i hi hk => ?_), fun y hy => y.keep (h1.holds y (by simp [hy])) hs (fun k hk e => (hp.1 y hy k).1 e hk), fun y hy => h1.foot y (by simp [hy]), hp.2⟩
  rcases h1.foot _ List.mem_cons_self i hk with h2 | h2
  · exact h2
  · omega
theorem St.opAgain (h : St S w0 w (X :: eOp O R w' :: L)) : St S w0 w (X :: eOp O R w :: L) := by
  have h2 := h.perm (.swap (eOp O R w') X L)
  have h3 : (eOp O R w').holds w := h2.holds _ List.mem_cons_self
  refine (h2.resay (eOp O R w) (fun i hi => ⟨(eOp O R w').lt h3 i hi, rfl⟩) (fun _ => Iff.rfl) (fun _ hk => hk)).perm (.swap X (eOp O R w) L)
theorem St.dfr {D : Nat} (h : St S w0 w L) [k : Slot L (eDfr D) F] : w.heap[D]? = some (.deferred (some [])) := h.get (k := k)
end

/-- How a round's body is left. -/
def leftAs (J : World → Prop) (Jx : Code → World → Prop) : Exit → Act → World → Prop
  | .normal, _, W' => J W'
  | .ret, _, W' => Jx .ret W'
  | .exit id, _, W' => Jx (.exit id) W'
  | .goto t, _, W' => Jx (.goto t) W'
  | .panic _, _, _ => False
  | .outgrown, _, _ => False

/-- How an iterator ends. -/
def IterEnd {α : Type} (fin : List α → Bool → List Ent → Prop) (J Jx : List α → (Nat → Prop) → (Nat → Prop) → World → Prop) (e : Ending) (W' : World) : Prop :=
  (∃ v, e = .returned v) ∧ ∃ pre Lf stopped, fin pre stopped Lf ∧ St (owns Lf) W' W' Lf ∧ (if stopped = true then Jx pre (owns Lf) (reads Lf) W' else J pre (owns Lf) (reads Lf) W')
theorem IterEnd.ends {α : Type} {fin : List α → Bool → List Ent → Prop} {J Jx : List α → (Nat → Prop) → (Nat → Prop) → World → Prop} {v : Value} {W' : World} {pre : List α} {Lf : List Ent} (hf : fin pre false Lf) (hs : St (owns Lf) W' W' Lf) (hj : J pre (owns Lf) (reads Lf) W') : IterEnd fin J Jx (.returned v) W' :=
  ⟨⟨v, rfl⟩, pre, Lf, false, hf, hs, hj⟩
theorem IterEnd.stops {α : Type} {fin : List α → Bool → List Ent → Prop} {J Jx : List α → (Nat → Prop) → (Nat → Prop) → World → Prop} {v : Value} {W' : World} {pre : List α} {Lf : List Ent} (hf : fin pre true Lf) (hs : St (owns Lf) W' W' Lf) (hj : Jx pre (owns Lf) (reads Lf) W') : IterEnd fin J Jx (.returned v) W' :=
  ⟨⟨v, rfl⟩, pre, Lf, true, hf, hs, hj⟩
/-- An iterator with the parts Li: it tells what ok lets it tell, and ends (or is stopped) with parts that fin says. -/
def Iters {α : Type} (P : Program) (g : Nat) (lb : Array Value) (encs : α → Array Value) (ok : List α → α → (Nat → Prop) → (Nat → Prop) → World → Prop) (fin : List α → Bool → List Ent → Prop) (Li : List Ent) : Prop :=
  ∀ (n l : Nat) (J Jx : List α → (Nat → Prop) → (Nat → Prop) → World → Prop) (W : World), St (owns Li) W W Li →
    (∀ pre O R O' R' W0 W1, J pre O R W0 → Step O W0 W1 → (∀ i, O' i → (O i ∨ W0.heap.size ≤ i) ∧ i < W1.heap.size) → (∀ i, R' i → (O i ∨ R i ∨ W0.heap.size ≤ i) ∧ i < W1.heap.size) → J pre O' R' W1) →
    (∀ pre O R O' R' W0 W1, Jx pre O R W0 → Step O W0 W1 → (∀ i, O' i → (O i ∨ W0.heap.size ≤ i) ∧ i < W1.heap.size) → (∀ i, R' i → (O i ∨ R i ∨ W0.heap.size ≤ i) ∧ i < W1.heap.size) → Jx pre O' R' W1) →
    (∀ pre x O R W1, J pre O R W1 → ok pre x O R W1 → YieldAt Fence.wide (n - 1) P l (encs x) W1 fun e W' =>
      Step (fun i => ¬ O i ∧ ¬ R i) W1 W' ∧ ((e = .returned (.bool true) ∧ J (pre ++ [x]) O R W') ∨ (e = .returned (.bool false) ∧ Jx (pre ++ [x]) O R W'))) →
    J [] (owns Li) (reads Li) W → CallsIn Fence.wide n P g (#[.func (.yield l) #[] #[]] ++ lb) W (IterEnd fin J Jx)

section
variable {P : Program}
/-- One round. -/
theorem yield_machine {F : Fence} {n : Nat} {D : Nat} {r : Loop} {args : Array Value} {W : World} {J : World → Prop} {Jx : Code → World → Prop} (hfn : F.fn r.fn) (hG : Going D r W) (hr : r.state = .ready) (hsz : args.size = r.params.size) (A : Act → World → Prop)
    (hassign : r.assign.wpIn (F.inRound (D + 1)) n P (Exit.then (fun a' W' => A a' W' ∧ Going D r W') (fun _ _ _ => False)) { tmps := (r.params.zip args).foldl (fun t (p, v) => t.setIfInBounds p v) r.tmps, defers := [] } W)
    (hbody : ∀ a' W', A a' W' → r.body.wpIn (F.inRound (D + 1)) n P (leftAs (fun W3 => J W3 ∧ Going D { r with state := .busy } W3) (fun c W3 => Jx c W3 ∧ Going D { r with state := .busy } W3)) a' (W'.putObj (D + 1) (.loop { r with state := .busy }))) :
    YieldAt F n P (D + 1) args W fun e W' => (e = .returned (.bool true) ∧ ∃ W3, J W3 ∧ Going D { r with state := .busy } W3 ∧ W' = W3.putObj (D + 1) (.loop { r with state := .ready, pending := none })) ∨
      (e = .returned (.bool false) ∧ ∃ c W3, Jx c W3 ∧ Going D { r with state := .busy } W3 ∧ W' = W3.putObj (D + 1) (.loop { r with state := .done, pending := some c })) := by
  refine ⟨_, _, _, _, run_yield hG.loop hsz, roundIn_of_wpIn hfn (wpIn_mono hassign ?_)⟩
  rintro e a1 W1 hp
  cases e <;> simp only [Exit.then] at hp ⊢ <;> try exact hp.elim
  obtain ⟨hA, hG1⟩ := hp
  refine ⟨_, run_beginRound hG1.loop hr, wpIn_mono (hbody a1 W1 hA) ?_⟩
  have stop : ∀ (c : Code) (W3 : World), Jx c W3 → Going D { r with state := .busy } W3 → ∃ v w', (Instr.endRound (D + 1) (some c)).run P W3 = .ok v w' ∧
      (((Ending.returned v : Ending) = .returned (.bool true) ∧ ∃ W3, J W3 ∧ Going D { r with state := .busy } W3 ∧ w' = W3.putObj (D + 1) (.loop { r with state := .ready, pending := none })) ∨
        ((Ending.returned v : Ending) = .returned (.bool false) ∧ ∃ c W3, Jx c W3 ∧ Going D { r with state := .busy } W3 ∧ w' = W3.putObj (D + 1) (.loop { r with state := .done, pending := some c }))) := fun c W3 hj hg =>
    ⟨_, _, run_endRound (some c) hg.loop, .inr ⟨rfl, c, W3, hj, hg, rfl⟩⟩
  rintro e a3 W3 hp
  cases e with
  | normal => exact ⟨_, _, run_endRound none hp.2.loop, .inl ⟨rfl, W3, hp.1, hp.2, rfl⟩⟩
  | ret => exact stop .ret W3 hp.1 hp.2
  | exit id => exact stop (.exit id) W3 hp.1 hp.2
  | goto t => exact stop (.goto t) W3 hp.1 hp.2
  | panic ch => exact hp.elim
  | outgrown => exact hp.elim
theorem St.mach {S : Nat → Prop} {w0 w : World} {L : List Ent} {D : Nat} {r : Loop} (h : St S w0 w (eMach D r :: L)) : Going D r w := h.holds _ List.mem_cons_self
/-- A part that has not been touched since H is as it was. -/
theorem St.opSame {S : Nat → Prop} {w0 w H : World} {L : List Ent} {X : Ent} {O R : Nat → Prop} (h : St S w0 w (X :: eOp O R H :: L)) : ∀ i, O i ∨ R i → w.heap[i]? = H.heap[i]? := fun i hi => ((show (eOp O R H).holds w from h.holds _ (by simp)) i hi).2

theorem wp_iter {α : Type} {g : Operand} {ps : Array Tmp} {assign body : Code} {Q : Exit → Act → World → Prop} {a : Act} {w : World} {gf : Nat} {lb : Array Value} (hg : a.eval g = .func (.func gf) #[] lb)
    (eg : ∀ args w, (callFunc gf args).run P w = .ok (.enter gf args) w) {encs : α → Array Value} {ok : List α → α → (Nat → Prop) → (Nat → Prop) → World → Prop} {fin : List α → Bool → List Ent → Prop} {Li : List Ent} (hseq : Iters P gf lb encs ok fin Li) (hps : ∀ x, (encs x).size = ps.size)
    {S : Nat → Prop} {w0 : World} {L0 : List Ent} (h : St S w0 w (Li ++ L0)) (M : List α → List Ent → Prop) (Mx : Code → List α → List Ent → Prop) (Ax : Array Value → List α → α → Act → List Ent → Prop) (h0 : M [] L0)
    (hassign : ∀ (l : Nat) (T : Nat → Prop) (X : Ent) (O R : Nat → Prop) (pre : List α) (x : α) (L : List Ent) (W : World), M pre L → ok pre x O R W → St T W W (X :: eOp O R W :: L) →
      assign.wpIn (Fence.wide.inRound l) 1 P (Exit.then (fun a' W' => ∃ L', Ax a.tmps pre x a' L' ∧ St T W W' (X :: eOp O R W :: L')) (fun _ _ _ => False)) { tmps := (ps.zip (encs x)).foldl (fun t (p, v) => t.setIfInBounds p v) a.tmps, defers := [] } W)
    (hbody : ∀ (l : Nat) (T : Nat → Prop) (X : Ent) (O R : Nat → Prop) (pre : List α) (x : α) (a' : Act) (L : List Ent) (W W2 : World), Ax a.tmps pre x a' L → ok pre x O R W → St T W W2 (X :: eOp O R W :: L) →
      body.wpIn (Fence.wide.inRound l) 1 P (leftAs (fun W' => ∃ L', M (pre ++ [x]) L' ∧ St T W W' (X :: eOp O R W :: L')) (fun c W' => ∃ L', Mx c (pre ++ [x]) L' ∧ St T W W' (X :: eOp O R W :: L'))) a' W2)
    (hdone : ∀ (D : Nat) (pre : List α) (L Lf : List Ent) (W : World), M pre L → fin pre false Lf → St S w0 W (eDfr D :: (Lf ++ L)) → Q .normal { a with defers := { target := .collected D, args := #[] } :: a.defers } W)
    (hstop : ∀ (D : Nat) (c : Code) (pre : List α) (L Lf : List Ent) (W : World), Mx c pre L → fin pre true Lf → St S w0 W (eDfr D :: (Lf ++ L)) → c.wp P Q { a with defers := { target := .collected D, args := #[] } :: a.defers } W) :
    (Code.rangeFunc g ps assign body).wp P Q a w := by
  refine (wpIn_wide (n := 3)).1 (wpIn_rangeFunc fun fn hfn => ?_)
  obtain ⟨r, hr⟩ : ∃ r : Loop, r = { state := .ready, pending := none, fn, tmps := a.tmps, params := ps, assign, body, defers := w.heap.size } := ⟨_, rfl⟩
  have hst : Step (fun _ => False) w ((w.alloc (.deferred (some []))).alloc (.loop r)) := ((Step.refl _ _).alloc _).alloc _
  have hG : Going w.heap.size r ((w.alloc (.deferred (some []))).alloc (.loop r)) :=
    ⟨by have := World.alloc_heap_new (w.alloc (.deferred (some []))) (.loop r); rwa [World.size_alloc] at this, (Below.heap_alloc _ _ _ (by simp)).trans (World.alloc_heap_new w _)⟩
  have hent := run_enterLoop_outer (P := P) (w := w) fn a.tmps ps assign body
  rw [← hr] at hent
  generalize (w.alloc (.deferred (some []))).alloc (.loop r) = W1 at *
  have hLi : St (owns Li) W1 W1 Li := (h.own0.quiet hst).renew
  have hJ0 : St S w0 W1 (eMach w.heap.size r :: eOp (owns Li) (reads Li) W1 :: L0) :=
    (h.opaque.add hst (eMach w.heap.size r) hG (fun k hk => by rcases hk with rfl | rfl <;> omega) (fun _ hk => hk)).opAgain
  generalize w.heap.size = D at *
  refine ⟨D + 1, [{ target := .collected D, args := #[] }], W1, { target := .fn (.func gf) lb, args := #[.func (.yield (D + 1)) #[] #[]] }, W1, gf, #[.func (.yield (D + 1)) #[] #[]] ++ lb, W1,
    hent, by simp only [resolve, hg]; simp [go_sem], fun f' hf' => trivial, by simp [invoke, go_sem, eg], fun _ => by omega, ?_⟩
  refine (hseq 2 (D + 1) (fun pre O R W => ∃ L, M pre L ∧ St S w0 W (eMach D r :: eOp O R W :: L)) (fun pre O R W => ∃ c L, Mx c pre L ∧ St S w0 W (eMach D { r with state := .done, pending := some c } :: eOp O R W :: L)) W1 hLi
    (fun pre O R O' R' W0 W1 ⟨L, h1, h2⟩ hs hO hR => ⟨L, h1, h2.opStep hs hO hR⟩) (fun pre O R O' R' W0 W1 ⟨c, L, h1, h2⟩ hs hO hR => ⟨c, L, h1, h2.opStep hs hO hR⟩) ?_ ⟨L0, h0, hJ0⟩).mono ?_
  · rintro pre x O R Wa ⟨L, hM, hs⟩ hok
    have hb := hs.renew
    obtain ⟨T, hT⟩ : ∃ T, T = owns (eMach D r :: eOp O R Wa :: L) := ⟨_, rfl⟩
    rw [← hT] at hb
    have step : ∀ {r' : Loop} {L' : List Ent} {W' : World}, St T Wa W' (eMach D r' :: eOp O R Wa :: L') → Step (fun i => ¬ O i ∧ ¬ R i) Wa W' := fun {r' L' W'} k => ⟨k.step.os, k.step.tape, k.step.output, k.step.size, fun i hi hn => by
      by_cases h1 : O i ∨ R i
      · exact k.opSame i h1
      · exact absurd ⟨fun h => h1 (.inl h), fun h => h1 (.inr h)⟩ hn⟩
    have hsB : ∀ W', St T Wa W' (eMach D r :: eOp O R Wa :: L) → True := fun _ _ => trivial
    refine YieldAt.mono (yield_machine (J := fun W' => ∃ L', M (pre ++ [x]) L' ∧ St T Wa W' (eMach D { r with state := .busy } :: eOp O R Wa :: L')) (Jx := fun c W' => ∃ L', Mx c (pre ++ [x]) L' ∧ St T Wa W' (eMach D { r with state := .busy } :: eOp O R Wa :: L')) (by rw [hr]; exact hfn) hs.mach (by rw [hr]) (by rw [hr]; exact hps x) (fun a' W' => ∃ L', Ax a.tmps pre x a' L' ∧ St T Wa W' (eMach D r :: eOp O R Wa :: L')) ?_ ?_) ?_
    · have := hassign (D + 1) T (eMach D r) O R pre x L Wa hM hok hb
      rw [hr] at this ⊢
      refine wpIn_mono this ?_
      rintro e a3 W3 hp
      cases e <;> simp only [Exit.then] at hp ⊢ <;> try exact hp
      exact ⟨hp, hp.choose_spec.2.mach⟩
    · rintro a' W' ⟨L', hA, hs'⟩
      have := hbody (D + 1) T (eMach D { r with state := .busy }) O R pre x a' L' Wa _ hA hok (hs'.machStep (r' := { r with state := .busy }))
      rw [hr] at this ⊢
      refine wpIn_mono this ?_
      rintro e a3 W3 hp
      cases e <;> first | exact hp.elim | exact ⟨hp, hp.choose_spec.2.mach⟩
    · rintro e W' (⟨rfl, W3, ⟨L', h1, h2⟩, _, rfl⟩ | ⟨rfl, c, W3, ⟨L', h1, h2⟩, _, rfl⟩)
      · have h3 := h2.machStep (r' := { r with state := .ready, pending := none })
        refine ⟨step h3, .inl ⟨rfl, L', h1, ?_⟩⟩
        have h4 := (hs.back (hT ▸ h3)).opAgain
        rw [hr] at h4 ⊢
        exact h4
      · have h3 := h2.machStep (r' := { r with state := .done, pending := some c })
        exact ⟨step h3, .inr ⟨rfl, c, L', h1, (hs.back (hT ▸ h3)).opAgain⟩⟩
  · rintro e W2 ⟨⟨v, rfl⟩, pre, Lf, stopped, hfin, hLf, hJ⟩
    cases stopped with
    | true =>
      obtain ⟨c, L, hM, hs⟩ := hJ
      refine ⟨some c, _, run_endLoop hs.mach.loop (by simp), wpIn_wide.2 ?_⟩
      exact hstop D c pre L Lf _ hM hfin ((hs.unopaque hLf).machStep.machDone)
    | false =>
      obtain ⟨L, hM, hs⟩ := hJ
      have e := run_endLoop (P := P) hs.mach.loop (by rw [hr]; simp)
      have hp : r.pending = none := by rw [hr]
      rw [hp] at e
      exact ⟨none, _, e, hdone D pre L Lf _ hM hfin ((hs.unopaque hLf).machStep.machDone)⟩
end
end Go.Proofs.Ytionnlckjjojnaa
namespace Go.Proofs.Ytionnlckjjojnaa
open Go.RowKit Go.Maps
set_option linter.unusedVariables false
set_option linter.unusedSimpArgs false
set_option linter.unusedSectionVars false

/-! ### Lists of pairs -/
section
variable {α β : Type} [DecidableEq α]
def mget (m : List (α × β)) (a : α) : Option β := (m.find? fun p => decide (p.1 = a)).map (·.2)
def mset (m : List (α × β)) (a : α) (v : β) : List (α × β) := match m with
  | [] => [(a, v)]
  | p :: m => if p.1 = a then (a, v) :: m else p :: mset m a v
def mdel (m : List (α × β)) (a : α) : List (α × β) := m.filter fun p => decide (p.1 ≠ a)
def MNodup (m : List (α × β)) : Prop := (m.map (·.1)).Nodup
theorem mget_nil (a : α) : mget ([] : List (α × β)) a = none := rfl
theorem mget_cons (p : α × β) (m : List (α × β)) (a : α) : mget (p :: m) a = if p.1 = a then some p.2 else mget m a := by
  unfold mget
  rw [List.find?_cons]
  by_cases h : p.1 = a <;> simp [h]
theorem mget_none {m : List (α × β)} {a : α} : mget m a = none ↔ ∀ p ∈ m, p.1 ≠ a := by
  induction m with
  | nil => simp [mget_nil]
  | cons p m ih =>
    rw [mget_cons]
    by_cases h : p.1 = a
    · simp [h]
    · simp [h, ih]
theorem mget_at {m : List (α × β)} (hn : MNodup m) {j : Nat} {p : α × β} (hj : m[j]? = some p) : mget m p.1 = some p.2 := by
  induction m generalizing j with
  | nil => simp at hj
  | cons q m ih =>
    rw [mget_cons]
    have hn2 : q.1 ∉ m.map (·.1) ∧ (m.map (·.1)).Nodup := List.nodup_cons.1 hn
    cases j with
    | zero => simp at hj; subst hj; simp
    | succ j =>
      simp at hj
      have hmem : p.1 ∈ m.map (·.1) := List.mem_map_of_mem (List.mem_of_getElem? hj)
      have : q.1 ≠ p.1 := fun e => hn2.1 (e ▸ hmem)
      rw [if_neg this]
      exact ih hn2.2 hj
theorem mset_at {m : List (α × β)} (hn : MNodup m) {j : Nat} {p : α × β} (hj : m[j]? = some p) (v : β) : mset m p.1 v = m.set j (p.1, v) := by
  induction m generalizing j with
  | nil => simp at hj
  | cons q m ih =>
    have hn2 : q.1 ∉ m.map (·.1) ∧ (m.map (·.1)).Nodup := List.nodup_cons.1 hn
    cases j with
    | zero => simp at hj; subst hj; simp [mset]
    | succ j =>
      simp at hj
      have hmem : p.1 ∈ m.map (·.1) := List.mem_map_of_mem (List.mem_of_getElem? hj)
      have : q.1 ≠ p.1 := fun e => hn2.1 (e ▸ hmem)
      simp [mset, this, ih hn2.2 hj]
theorem mset_new {m : List (α × β)} {a : α} (h : ∀ p ∈ m, p.1 ≠ a) (v : β) : mset m a v = m ++ [(a, v)] := by
  induction m with
  | nil => rfl
  | cons p m ih => simp [mset, h p (by simp), ih (fun q hq => h q (by simp [hq]))]
theorem mset_keys (m : List (α × β)) (a : α) (v : β) : ∀ b, b ∈ (mset m a v).map (·.1) ↔ b = a ∨ b ∈ m.map (·.1) := by
  intro b
  induction m with
  | nil => simp [mset]
  | cons p m ih =>
    unfold mset
    by_cases h : p.1 = a
    · rw [if_pos h]; simp [h]
    · rw [if_neg h, List.map_cons, List.mem_cons, ih]
      simp only [List.map_cons, List.mem_cons]
      constructor
      · rintro (h1 | h1 | h1)
        · exact .inr (.inl h1)
        · exact .inl h1
        · exact .inr (.inr h1)
      · rintro (h1 | h1 | h1)
        · exact .inr (.inl h1)
        · exact .inl h1
        · exact .inr (.inr h1)
theorem mset_nodup {m : List (α × β)} (hn : MNodup m) (a : α) (v : β) : MNodup (mset m a v) := by
  induction m with
  | nil => simp [mset, MNodup]
  | cons p m ih =>
    have hn2 : p.1 ∉ m.map (·.1) ∧ (m.map (·.1)).Nodup := List.nodup_cons.1 hn
    unfold mset
    by_cases h : p.1 = a
    · rw [if_pos h]
      exact List.nodup_cons.2 ⟨by rw [← h]; exact hn2.1, hn2.2⟩
    · rw [if_neg h]
      exact List.nodup_cons.2 ⟨fun hm => by
        rcases (mset_keys m a v p.1).1 hm with h1 | h1
        · exact h h1
        · exact hn2.1 h1, ih hn2.2⟩
theorem mdel_nodup {m : List (α × β)} (hn : MNodup m) (a : α) : MNodup (mdel m a) := hn.sublist ((List.filter_sublist).map _)
theorem mget_set (m : List (α × β)) (a : α) (v : β) (b : α) : mget (mset m a v) b = if b = a then some v else mget m b := by
  induction m with
  | nil =>
    rw [mset, mget_cons, mget_nil]
    by_cases h : b = a
    · subst h; simp
    · rw [if_neg h, if_neg (fun e => h e.symm)]
  | cons p m ih =>
    unfold mset
    by_cases h : p.1 = a
    · rw [if_pos h, mget_cons, mget_cons]
      by_cases hb : b = a
      · subst hb; simp
      · rw [if_neg (fun e => hb e.symm), if_neg hb, if_neg (fun e => hb (e.symm.trans h))]
    · rw [if_neg h, mget_cons, mget_cons, ih]
      by_cases hp : p.1 = b
      · rw [if_pos hp, if_pos hp, if_neg (fun e => h (hp.trans e))]
      · rw [if_neg hp, if_neg hp]
theorem mget_del (m : List (α × β)) (a b : α) : mget (mdel m a) b = if b = a then none else mget m b := by
  induction m with
  | nil => simp [mdel, mget_nil]
  | cons p m ih =>
    have e : mdel (p :: m) a = if p.1 = a then mdel m a else p :: mdel m a := by
      unfold mdel
      rw [List.filter_cons]
      by_cases h : p.1 = a <;> simp [h]
    rw [e]
    by_cases h : p.1 = a
    · rw [if_pos h, ih, mget_cons]
      by_cases hb : b = a
      · rw [if_pos hb, if_pos hb]
      · rw [if_neg hb, if_neg hb, if_neg (fun e => hb (e.symm.trans h))]
    · rw [if_neg h, mget_cons, mget_cons, ih]
      by_cases hp : p.1 = b
      · rw [if_pos hp, if_pos hp, if_neg (fun e => h (hp.trans e))]
      · rw [if_neg hp, if_neg hp]
theorem mdel_at {m : List (α × β)} (hn : MNodup m) {j : Nat} {p : α × β} (hj : m[j]? = some p) : mdel m p.1 = m.eraseIdx j := by
  induction m generalizing j with
  | nil => simp at hj
  | cons q m ih =>
    have hn2 : q.1 ∉ m.map (·.1) ∧ (m.map (·.1)).Nodup := List.nodup_cons.1 hn
    unfold mdel
    rw [List.filter_cons]
    cases j with
    | zero =>
      simp at hj
      subst hj
      simp only [ne_eq, not_true_eq_false, decide_false, Bool.false_eq_true, if_false, List.eraseIdx_cons_zero]
      exact List.filter_eq_self.2 fun x hx => by
        simp only [ne_eq, decide_eq_true_eq]
        exact fun e => hn2.1 (e ▸ List.mem_map_of_mem hx)
    | succ j =>
      simp at hj
      have hmem : p.1 ∈ m.map (·.1) := List.mem_map_of_mem (List.mem_of_getElem? hj)
      have : q.1 ≠ p.1 := fun e => hn2.1 (e ▸ hmem)
      simp only [ne_eq, this, not_false_eq_true, decide_true, if_true, List.eraseIdx_cons_succ]
      congr 1
      exact ih hn2.2 hj
theorem mdel_none {m : List (α × β)} {a : α} (h : ∀ p ∈ m, p.1 ≠ a) : mdel m a = m := List.filter_eq_self.2 fun x hx => by simpa using h x hx
end

/-- Keys of type k as values. -/
class MapKey (P : Program) (k : TypeId) {α : Type} (kv : α → Value) : Prop where
  keyed : Keyed P k
  lit : ∀ a, ∃ l, keyOf P k (kv a) = some l
  inj : ∀ a b, kv a = kv b → a = b
class MapTy (P : Program) (t : TypeId) (k e : outParam TypeId) (z : outParam Value) : Prop where
  und : P.underlying t = some (.map k e)
  zero : ∀ w, (zeroValue e).run P w = .ok z w

/-- A map: what lies in it. -/
def eMap {α β : Type} (b : Nat) (kv : α → Value) (vv : β → Value) (m : List (α × β)) : Ent where
  own i := i = b
  rd _ := False
  holds w := ∃ (es : Array MapEntry) (clock : Nat), w.heap[b]? = some (.map es clock) ∧ es.toList.map (fun e => (e.key, e.val)) = m.map (fun p => (kv p.1, vv p.2)) ∧ (m.map (·.1)).Nodup ∧ (∀ e ∈ es.toList, e.born < clock) ∧ (es.toList.map (·.born)).Nodup
  isC := false
  lt h i hi := by
    obtain ⟨es, clock, h1, _⟩ := h
    rcases hi with rfl | hi
    · exact (Array.getElem?_eq_some_iff.1 h1).1
    · exact hi.elim
  keep h hs hd := by
    obtain ⟨es, clock, h1, h2⟩ := h
    exact ⟨es, clock, (hs.block _ (Array.getElem?_eq_some_iff.1 h1).1 (hd _ (.inl rfl))).trans h1, h2⟩
  cel hc := by cases hc
class SlotM {α β : Type} (L : List Ent) (b : Nat) (kv : outParam (α → Value)) (vv : outParam (β → Value)) (m : outParam (List (α × β))) (F : outParam (List Ent)) : Prop where
  perm : L.Perm (eMap b kv vv m :: F)
instance (priority := high) SlotM.hit {α β : Type} (b : Nat) (kv : α → Value) (vv : β → Value) (m : List (α × β)) (L : List Ent) : SlotM (eMap b kv vv m :: L) b kv vv m L := ⟨.refl _⟩
instance SlotM.miss {α β : Type} (x : Ent) (b : Nat) (kv : α → Value) (vv : β → Value) (m : List (α × β)) (L F : List Ent) [h : SlotM L b kv vv m F] : SlotM (x :: L) b kv vv m (x :: F) := ⟨(h.perm.cons x).trans (.swap _ _ _)⟩

section
variable {α β : Type} [DecidableEq α] {P : Program} {kv : α → Value} {vv : β → Value} {m : List (α × β)} {es : Array MapEntry}
theorem map_at (he : es.toList.map (fun e => (e.key, e.val)) = m.map (fun p => (kv p.1, vv p.2))) {j : Nat} {e : MapEntry} (hj : es.toList[j]? = some e) : ∃ p, m[j]? = some p ∧ e.key = kv p.1 ∧ e.val = vv p.2 := by
  have h1 := congrArg (·[j]?) he
  simp only [List.getElem?_map, hj, Option.map_some] at h1
  cases hm : m[j]? with
  | none => rw [hm] at h1; cases h1
  | some p =>
    rw [hm] at h1
    simp only [Option.map_some, Option.some.injEq, Prod.mk.injEq] at h1
    exact ⟨p, rfl, h1.1, h1.2⟩
theorem map_mem (he : es.toList.map (fun e => (e.key, e.val)) = m.map (fun p => (kv p.1, vv p.2))) {p : α × β} (hp : p ∈ m) : ∃ e ∈ es.toList, e.key = kv p.1 := by
  have : (kv p.1, vv p.2) ∈ es.toList.map (fun e => (e.key, e.val)) := by rw [he]; exact List.mem_map_of_mem hp
  obtain ⟨e, h1, h2⟩ := List.mem_map.1 this
  exact ⟨e, h1, (Prod.mk.inj h2).1⟩
/-- A key sought among what lies in a map. -/
theorem map_find {k : TypeId} [K : MapKey P k kv] (he : es.toList.map (fun e => (e.key, e.val)) = m.map (fun p => (kv p.1, vv p.2))) (hn : MNodup m) (a : α) (w : World) :
    ((Instr.findKey k (kv a) es.toList).run P w = .ok none w ∧ mget m a = none ∧ ∀ p ∈ m, p.1 ≠ a) ∨ ∃ j e v, (Instr.findKey k (kv a) es.toList).run P w = .ok (some (j, e.val)) w ∧ es.toList[j]? = some e ∧ e.key = kv a ∧ m[j]? = some (a, v) ∧ e.val = vv v ∧ mget m a = some v := by
  obtain ⟨l, hl⟩ := K.lit a
  rcases K.keyed.find w hl es.toList (fun e hm => by
    obtain ⟨j, hj⟩ := List.getElem?_of_mem hm
    obtain ⟨p, _, h2, _⟩ := map_at he hj
    obtain ⟨l2, hl2⟩ := K.lit p.1
    exact ⟨l2, by rw [h2]; exact hl2⟩) with ⟨h1, h2⟩ | ⟨j, e, h1, h2, h3⟩
  · have h4 : ∀ p ∈ m, p.1 ≠ a := fun p hp e => by
      obtain ⟨x, hx, hk⟩ := map_mem he hp
      exact h2 x hx (by rw [hk, e])
    exact .inl ⟨h1, mget_none.2 h4, h4⟩
  · obtain ⟨p, h4, h5, h6⟩ := map_at he h2
    have h7 : p.1 = a := K.inj _ _ (h5.symm.trans h3)
    obtain ⟨p1, p2⟩ := p
    simp only at h7
    subst h7
    exact .inr ⟨j, e, p2, h1, h2, h3, h4, h6, mget_at hn h4⟩
end
end Go.Proofs.Ytionnlckjjojnaa
namespace Go.Proofs.Ytionnlckjjojnaa
open Go.RowKit Go.Maps
set_option linter.unusedVariables false
set_option linter.unusedSimpArgs false
set_option linter.unusedSectionVars false

section
variable {α β : Type} [DecidableEq α] {P : Program} {ρ : Operand → Value} {o : Oper} {S : Nat → Prop} {w0 w : World} {L F : List Ent} {kv : α → Value} {vv : β → Value} {m : List (α × β)}
theorem St.map (h : St S w0 w L) (b : Nat) {kv : α → Value} {vv : β → Value} {m : List (α × β)} [k : SlotM L b kv vv m F] : (eMap b kv vv m).holds w := (h.perm k.perm).holds _ List.mem_cons_self
/-- What a look-up gives. -/
def mval (z : Value) (vv : β → Value) : Option β → Value
  | some v => vv v
  | none => z
theorem run_mlook (h : St S w0 w L) (t : TypeId) (b : Nat) {k e : TypeId} {z : Value} [T : MapTy P t k e z] [sm : SlotM L b kv vv m F] [K : MapKey P k kv] (a : α) (c : Bool) :
    (Instr.lookup t (.map (some b)) (kv a) c).run P w = .ok (if c then .tuple #[mval z vv (mget m a), .bool (mget m a).isSome] else mval z vv (mget m a)) w := by
  obtain ⟨es, clock, hb, he, hn, _, _⟩ := h.map b (k := sm)
  obtain ⟨l, hl⟩ := K.lit a
  have hz := T.zero w
  rcases map_find (P := P) (k := k) he hn a w with ⟨h1, h2, _⟩ | ⟨j, x, v, h1, _, _, _, h4, h5⟩
  · rw [h2]
    cases c <;> simp [Instr.lookup, run_underlying T.und, MapKept.run_getObj_map hb, K.keyed.check w _ hl, h1, hz, Result.andThen, mval]
  · rw [h5]
    cases c <;> simp [Instr.lookup, run_underlying T.und, MapKept.run_getObj_map hb, K.keyed.check w _ hl, h1, h4, Result.andThen, mval]
theorem ex_mlook (h : St S w0 w L) (t : TypeId) (x y : Operand) (ho : o.op = .lookup t x y false) (b : Nat) (hx : ρ x = .map (some b)) (a : α) (hy : ρ y = kv a) {k e : TypeId} {z : Value} [T : MapTy P t k e z] [sm : SlotM L b kv vv m F] [K : MapKey P k kv] :
    Reads P ρ o w (mval z vv (mget m a)) := by
  refine ⟨by simp [ho], by simp [Oper.about, ho], ?_⟩
  have e1 := run_mlook (P := P) (kv := kv) (vv := vv) (m := m) h t b a false
  unfold execOp
  simp [ho, hx, hy, e1, Result.andThen]
theorem ex_mlook2 (h : St S w0 w L) (t : TypeId) (x y : Operand) (ho : o.op = .lookup t x y true) (b : Nat) (hx : ρ x = .map (some b)) (a : α) (hy : ρ y = kv a) {k e : TypeId} {z : Value} [T : MapTy P t k e z] [sm : SlotM L b kv vv m F] [K : MapKey P k kv] :
    Reads P ρ o w (.tuple #[mval z vv (mget m a), .bool (mget m a).isSome]) := by
  refine ⟨by simp [ho], by simp [Oper.about, ho], ?_⟩
  have e1 := run_mlook (P := P) (kv := kv) (vv := vv) (m := m) h t b a true
  unfold execOp
  simp [ho, hx, hy, e1, Result.andThen]
/-- A look-up in a map that is nil. -/
theorem ex_mnil (t : TypeId) (x y : Operand) (ho : o.op = .lookup t x y false) (hx : ρ x = .map none) (a : α) (hy : ρ y = kv a) {k e : TypeId} {z : Value} [T : MapTy P t k e z] [K : MapKey P k kv] : Reads P ρ o w z := by
  obtain ⟨l, hl⟩ := K.lit a
  have hz := T.zero w
  have hf : (Instr.findKey k (kv a) []).run P w = .ok none w := by
    rcases K.keyed.find w hl [] (by simp) with ⟨h1, _⟩ | ⟨j, e, _, h2, _⟩
    · exact h1
    · cases h2
  refine ⟨by simp [ho], by simp [Oper.about, ho], ?_⟩
  unfold execOp
  simp [ho, hx, hy, Instr.lookup, run_underlying T.und, K.keyed.check w _ hl, hf, hz, Result.andThen]
theorem modify_set {γ : Type} {l : List γ} {j : Nat} {x : γ} (h : l[j]? = some x) (f : γ → γ) : l.modify j f = l.set j (f x) := by
  apply List.ext_getElem?
  intro i
  rw [List.getElem?_modify, List.getElem?_set]
  by_cases hi : j = i
  · subst hi
    obtain ⟨h1, h2⟩ := List.getElem?_eq_some_iff.1 h
    simp [h1, h2]
  · simp [hi]
theorem modify_toList (es : Array MapEntry) (j : Nat) (f : MapEntry → MapEntry) : (es.modify j f).toList = es.toList.modify j f := by simp
theorem run_mput (h : St S w0 w L) (t : TypeId) (b : Nat) {k e : TypeId} {z : Value} [T : MapTy P t k e z] [sm : SlotM L b kv vv m F] [K : MapKey P k kv] (a : α) (v : β) :
    ∃ w', (Instr.mapUpdate t (.map (some b)) (kv a) (vv v)).run P w = .ok () w' ∧ St S w0 w' (eMap b kv vv (mset m a v) :: F) := by
  obtain ⟨es, clock, hb, he, hn, hc, hbn⟩ := h.map b (k := sm)
  have hlt := (Array.getElem?_eq_some_iff.1 hb).1
  obtain ⟨l, hl⟩ := K.lit a
  have step : ∀ o' : Obj, Step (fun i => i = b) w { w with heap := w.heap.setIfInBounds b o' } := fun o' => ⟨rfl, rfl, rfl, by simp, fun i _ hi => by simp [Array.getElem?_setIfInBounds, Ne.symm hi]⟩
  have same : ∀ o' : Obj, ({ w with heap := w.heap.setIfInBounds b o' } : World).heap[b]? = some o' := fun o' => by simp [Array.getElem?_setIfInBounds, hlt]
  rcases map_find (P := P) (k := k) he hn a w with ⟨h1, _, h3⟩ | ⟨j, x, v0, h1, h2, h3, h4, h5, h6⟩
  · refine ⟨_, by simp [Instr.mapUpdate, run_underlying T.und, MapKept.run_getObj_map hb, K.keyed.check w _ hl, h1, MapKept.run_setObj_map _ hb, Result.andThen]; rfl, ?_⟩
    refine h.set (e := eMap b kv vv m) (k := ⟨sm.perm⟩) (eMap b kv vv (mset m a v)) (step _) ⟨_, _, same _, ?_, mset_nodup hn a v, ?_, ?_⟩ (fun i hi => .inl hi) (fun _ hi => hi)
    · rw [mset_new h3, Array.toList_push, List.map_append, List.map_append, he]; rfl
    · intro y hy
      rw [Array.toList_push, List.mem_append] at hy
      rcases hy with hy | hy
      · exact Nat.lt_succ_of_lt (hc y hy)
      · simp at hy; subst hy; exact Nat.lt_succ_self _
    · rw [Array.toList_push, List.map_append]
      refine List.nodup_append.2 ⟨hbn, by simp, ?_⟩
      intro p hp q hq
      simp at hq
      obtain ⟨y, hy, rfl⟩ := List.mem_map.1 hp
      have := hc y hy
      omega
  · have hst := K.keyed.stays w hl
    have h2' : es[j]? = some x := by rw [← Array.getElem?_toList]; exact h2
    refine ⟨_, by simp [Instr.mapUpdate, run_underlying T.und, MapKept.run_getObj_map hb, K.keyed.check w _ hl, h1, h2', h3, hst, MapKept.run_setObj_map _ hb, Result.andThen]; rfl, ?_⟩
    have hj : j < es.toList.length := (List.getElem?_eq_some_iff.1 h2).1
    have hx : es.toList[j] = x := (List.getElem?_eq_some_iff.1 h2).2
    refine h.set (e := eMap b kv vv m) (k := ⟨sm.perm⟩) (eMap b kv vv (mset m a v)) (step _) ⟨_, _, same _, ?_, mset_nodup hn a v, ?_, ?_⟩ (fun i hi => .inl hi) (fun _ hi => hi)
    · rw [modify_toList, modify_set h2, mset_at hn h4 v]
      rw [List.map_set, List.map_set, he]
    · intro y hy
      rw [modify_toList, modify_set h2] at hy
      rcases List.mem_or_eq_of_mem_set hy with hy | rfl
      · exact hc y hy
      · exact hc x (List.mem_of_getElem? h2)
    · rw [modify_toList, modify_set h2]
      rw [List.map_set]
      have e1 : (es.toList.map (·.born)).set j x.born = es.toList.map (·.born) := by
        have : (es.toList.map (·.born))[j]? = some x.born := by rw [List.getElem?_map, h2]; rfl
        apply List.ext_getElem?
        intro i
        rw [List.getElem?_set]
        by_cases hi : j = i
        · subst hi; rw [this]; simp only [List.length_map, hj, if_true]
        · simp [hi]
      rw [e1]
      exact hbn
theorem ex_mput (h : St S w0 w L) (t : TypeId) (x y u : Operand) (ho : o.op = .mapUpdate t x y u) (b : Nat) (hx : ρ x = .map (some b)) (a : α) (hy : ρ y = kv a) (v : β) (hu : ρ u = vv v) {k e : TypeId} {z : Value} [T : MapTy P t k e z] [sm : SlotM L b kv vv m F] [K : MapKey P k kv] :
    Runs P ρ o w fun r w' => r = undef ∧ St S w0 w' (eMap b kv vv (mset m a v) :: F) := by
  obtain ⟨w', hrun, h2⟩ := run_mput h t b a v (P := P) (k := k)
  refine ⟨by simp [ho], by simp [Oper.about, ho], _, w', .inr ⟨?_, rfl⟩, rfl, h2⟩
  unfold execOp
  simp [ho, hx, hy, hu, hrun, Result.andThen]
theorem ex_mmake (h : St S w0 w L) (t : TypeId) (ho : o.op = .makeMap t none) (kv : α → Value) (vv : β → Value) : Runs P ρ o w fun r w' => ∃ b, r = .map (some b) ∧ St S w0 w' (eMap b kv vv ([] : List (α × β)) :: L) := by
  refine ⟨by simp [ho], by simp [Oper.about, ho], .map (some w.heap.size), w.alloc (.map #[] 0), .inl ?_, w.heap.size, rfl, h.add ((Step.refl _ _).alloc _) (eMap w.heap.size kv vv []) ⟨#[], 0, World.alloc_heap_new _ _, by simp, by simp, by simp, by simp⟩ (fun i hi => by have e : i = w.heap.size := hi; omega) (fun _ hi => hi)⟩
  unfold execOp
  simp [ho, run_makeMap, Result.andThen]
theorem map_erase {γ δ : Type} (f : γ → δ) (l : List γ) (j : Nat) : (l.eraseIdx j).map f = (l.map f).eraseIdx j := by simp [List.eraseIdx_eq_take_drop_succ]
theorem run_mdel (h : St S w0 w L) (t ty k2 : TypeId) (b : Nat) {k e : TypeId} {z : Value} [T : MapTy P t k e z] [sm : SlotM L b kv vv m F] [K : MapKey P k kv] (a : α) :
    ∃ w', (Builtin.delete_ #[t, k2] ty #[.map (some b), kv a]).run P w = .ok (.tuple #[]) w' ∧ St S w0 w' (eMap b kv vv (mdel m a) :: F) := by
  obtain ⟨es, clock, hb, he, hn, hc, hbn⟩ := h.map b (k := sm)
  have hlt := (Array.getElem?_eq_some_iff.1 hb).1
  obtain ⟨l, hl⟩ := K.lit a
  have step : ∀ o' : Obj, Step (fun i => i = b) w { w with heap := w.heap.setIfInBounds b o' } := fun o' => ⟨rfl, rfl, rfl, by simp, fun i _ hi => by simp [Array.getElem?_setIfInBounds, Ne.symm hi]⟩
  have same : ∀ o' : Obj, ({ w with heap := w.heap.setIfInBounds b o' } : World).heap[b]? = some o' := fun o' => by simp [Array.getElem?_setIfInBounds, hlt]
  rcases map_find (P := P) (k := k) he hn a w with ⟨h1, _, h3⟩ | ⟨j, x, v0, h1, h2, h3, h4, h5, h6⟩
  · refine ⟨_, by simp [Builtin.delete_, run_underlying T.und, MapKept.run_getObj_map hb, K.keyed.check w _ hl, h1, MapKept.run_setObj_map _ hb, Result.andThen]; rfl, ?_⟩
    exact h.set (e := eMap b kv vv m) (k := ⟨sm.perm⟩) (eMap b kv vv (mdel m a)) (step _) ⟨_, _, same _, by rw [mdel_none h3]; exact he, mdel_nodup hn a, hc, hbn⟩ (fun i hi => .inl hi) (fun _ hi => hi)
  · refine ⟨_, by simp [Builtin.delete_, run_underlying T.und, MapKept.run_getObj_map hb, K.keyed.check w _ hl, h1, MapKept.run_setObj_map _ hb, Result.andThen]; rfl, ?_⟩
    refine h.set (e := eMap b kv vv m) (k := ⟨sm.perm⟩) (eMap b kv vv (mdel m a)) (step _) ⟨_, _, same _, ?_, mdel_nodup hn a, ?_, ?_⟩ (fun i hi => .inl hi) (fun _ hi => hi)
    · rw [mdel_at hn h4, Array.toList_eraseIdxIfInBounds, map_erase, map_erase, he]
    · intro y hy
      rw [Array.toList_eraseIdxIfInBounds] at hy
      exact hc y (List.mem_of_mem_eraseIdx hy)
    · rw [Array.toList_eraseIdxIfInBounds]
      exact hbn.sublist ((List.eraseIdx_sublist _ _).map _)
theorem ex_mdel (h : St S w0 w L) (x y : Operand) (t k2 : TypeId) (ho : o.op = .call { callee := .builtin .delete, args := #[x, y], argTypes := #[t, k2] }) (b : Nat) (hx : ρ x = .map (some b)) (a : α) (hy : ρ y = kv a) {k e : TypeId} {z : Value} [T : MapTy P t k e z] [sm : SlotM L b kv vv m F] [K : MapKey P k kv] :
    Runs P ρ o w fun r w' => St S w0 w' (eMap b kv vv (mdel m a) :: F) := by
  obtain ⟨w', hrun, h2⟩ := run_mdel h t o.type k2 b a (P := P) (k := k) (kv := kv) (vv := vv) (m := m)
  refine ⟨by simp [ho], by simp [Oper.about, ho, resolve, Target.leads], .tuple #[], w', .inl ?_, h2⟩
  unfold execOp
  simp only [ho, resolve, invoke, builtin, Sem.run_bind, Sem.run_pure, Result.andThen_ok, List.map_toArray, List.map_cons, List.map_nil, hx, hy, hrun]
end
end Go.Proofs.Ytionnlckjjojnaa
namespace Go.Proofs.Ytionnlckjjojnaa
open Go.RowKit Go.Maps
set_option linter.unusedVariables false
set_option linter.unusedSimpArgs false
set_option linter.unusedSectionVars false

section
variable {α β : Type} [DecidableEq α] {P : Program} {ρ : Operand → Value} {o : Oper} {S : Nat → Prop} {w0 w : World} {L F : List Ent} {m : List (α × β)}
theorem ex_look_some (kv : α → Value) (vv : β → Value) (h : St S w0 w L) (t : TypeId) (x y : Operand) (ho : o.op = .lookup t x y true) (b : Nat) (hx : ρ x = .map (some b)) (a : α) (hy : ρ y = kv a) {v : β} (hg : mget m a = some v) {k e : TypeId} {z : Value} [T : MapTy P t k e z] [sm : SlotM L b kv vv m F] [K : MapKey P k kv] :
    Reads P ρ o w (.tuple #[vv v, .bool true]) := by
  have := ex_mlook2 (P := P) (kv := kv) (vv := vv) (m := m) h t x y ho b hx a hy
  rwa [hg] at this
theorem ex_look_eq (kv : α → Value) (vv : β → Value) (h : St S w0 w L) (t : TypeId) (x y : Operand) (ho : o.op = .lookup t x y true) (b : Nat) (hx : ρ x = .map (some b)) (a : α) (hy : ρ y = kv a) {v : β} (hg : mget m a = some v) {u : Value} (hv : vv v = u) {k e : TypeId} {z : Value} [T : MapTy P t k e z] [sm : SlotM L b kv vv m F] [K : MapKey P k kv] :
    Reads P ρ o w (.tuple #[u, .bool true]) := by
  rw [← hv]
  exact ex_look_some kv vv h t x y ho b hx a hy hg
theorem ex_look_none (kv : α → Value) (vv : β → Value) (h : St S w0 w L) (t : TypeId) (x y : Operand) (ho : o.op = .lookup t x y true) (b : Nat) (hx : ρ x = .map (some b)) (a : α) (hy : ρ y = kv a) (hg : mget m a = none) {k e : TypeId} {z : Value} [T : MapTy P t k e z] [sm : SlotM L b kv vv m F] [K : MapKey P k kv] :
    Reads P ρ o w (.tuple #[z, .bool false]) := by
  have := ex_mlook2 (P := P) (kv := kv) (vv := vv) (m := m) h t x y ho b hx a hy
  rwa [hg] at this
theorem ex_look1_some (kv : α → Value) (vv : β → Value) (h : St S w0 w L) (t : TypeId) (x y : Operand) (ho : o.op = .lookup t x y false) (b : Nat) (hx : ρ x = .map (some b)) (a : α) (hy : ρ y = kv a) {v : β} (hg : mget m a = some v) {k e : TypeId} {z : Value} [T : MapTy P t k e z] [sm : SlotM L b kv vv m F] [K : MapKey P k kv] :
    Reads P ρ o w (vv v) := by
  have := ex_mlook (P := P) (kv := kv) (vv := vv) (m := m) h t x y ho b hx a hy
  rwa [hg] at this
theorem ex_look1_none (kv : α → Value) (vv : β → Value) (h : St S w0 w L) (t : TypeId) (x y : Operand) (ho : o.op = .lookup t x y false) (b : Nat) (hx : ρ x = .map (some b)) (a : α) (hy : ρ y = kv a) (hg : mget m a = none) {k e : TypeId} {z : Value} [T : MapTy P t k e z] [sm : SlotM L b kv vv m F] [K : MapKey P k kv] :
    Reads P ρ o w z := by
  have := ex_mlook (P := P) (kv := kv) (vv := vv) (m := m) h t x y ho b hx a hy
  rwa [hg] at this
end
end Go.Proofs.Ytionnlckjjojnaa
namespace Go.Proofs.Ytionnlckjjojnaa
open Go.RowKit Go.Maps
set_option linter.unusedVariables false
set_option linter.unusedSimpArgs false

theorem mapM_some {γ δ : Type} {f : γ → Option δ} : ∀ {l : List γ}, (∀ x ∈ l, ∃ y, f x = some y) → ∃ ys, l.mapM f = some ys
  | [], _ => ⟨[], rfl⟩
  | x :: l, h => by
    obtain ⟨y, hy⟩ := h x (by simp)
    obtain ⟨ys, hys⟩ := mapM_some (l := l) (fun z hz => h z (by simp [hz]))
    exact ⟨y :: ys, by simp [List.mapM_cons, hy, hys]⟩
section
variable {P : Program} {k : TypeId}
/-- A name as a key. -/
abbrev Nm := { l : List UInt8 // l.length ≤ maxLen }
def nmv (x : Nm) : Value := .string (str x.1)
theorem str_inj {a b : List UInt8} (h : str a = str b) : a = b := by rw [← str_data a, h, str_data]
theorem mapkey_str (hk : P.underlying k = some .string) : MapKey P k nmv where
  keyed := string_keyed hk
  lit a := ⟨_, Go.WideMaps.keyOf_string_mk hk (by rw [str_size]; exact a.2)⟩
  inj a b h := Subtype.ext (str_inj (Value.string.inj h))
abbrev U32 := { n : Nat // n < 2 ^ 32 }
def u32v (x : U32) : Value := .int .u32 (x.1 : Int)
theorem wf_u32 (x : U32) : (Lit.int .u32 (x.1 : Int)).wf = true := by
  have := x.2
  simp [Lit.wf, IntKind.min, IntKind.max, IntKind.signed, IntKind.bits]
  omega
theorem mapkey_u32 (hk : P.underlying k = some (.int .u32)) : MapKey P k u32v where
  keyed := int_keyed hk
  lit a := ⟨_, keyOf_int_mk hk (wf_u32 a)⟩
  inj a b h := by
    simp only [u32v, Value.int.injEq, true_and] at h
    exact Subtype.ext (by omega)
def idv (x : Id) : Value := .agg (u8s x.1).toArray
theorem u8s_inj {a b : List UInt8} (h : u8s a = u8s b) : a = b := by
  have : a.map u8v = b.map u8v := h
  refine List.map_inj_right (f := u8v) ?_ |>.1 this
  intro x y e
  simp only [u8v, Value.int.injEq, true_and] at e
  exact UInt8.toNat_inj.1 (by omega)
theorem keyLits_u8 {e : TypeId} (he : P.underlying e = some (.int .u8)) (d : Nat) (x : UInt8) : ∃ ls, P.keyLits (d + 1) e [u8v x] = some ls := by
  have hx : (Lit.int .u8 (x.toNat : Int)).wf = true := by
    have := x.toNat_lt
    simp [Lit.wf, IntKind.min, IntKind.max, IntKind.signed, IntKind.bits]
    omega
  refine ⟨[.int .u8 (x.toNat : Int)], ?_⟩
  simp only [Program.keyLits, he, u8v]
  simp [hx]
theorem keyLits_array {e : TypeId} {n : Nat} (hk : P.underlying k = some (.array n e)) (d : Nat) (cs : List Value) (hlen : cs.length = P.cellsOf k) : P.keyLits (d + 1) k cs = ((List.range n).mapM fun i => P.keyLits d e ((cs.drop (i * P.cellsOf e)).take (P.cellsOf e))).map List.flatten := by
  conv => lhs; unfold Program.keyLits
  simp only [hk, hlen, if_true]
theorem mapkey_id {e : TypeId} (hk : P.underlying k = some (.array 32 e)) (he : P.underlying e = some (.int .u8)) (hl : laidOutB P = true) {m s : Nat} (hm : m + 1 ≤ 10000) (hrow : k < P.types.size) (hkt : P.keyTypeAt m k = true) (hkt2 : P.keyType k = true) (hs : P.types.size = s + 1) (hc : P.cellsOf k = 32) (hc2 : P.cellsOf e = 1) : MapKey P k idv where
  keyed := Keyed.of_law (deep_law_laid hl hm hrow hkt (by rw [hk]))
  lit a := by
    have hlen : (u8s a.1).length = 32 := by rw [u8s_length, a.2]
    have hf : (idv a).formed P k = true := by simp [Value.formed, idv, hk, hc, hlen]
    have hls : ∃ ls, P.keyLits (P.types.size + 1) k (idv a).cells.toList = some ls := by
      have hcell : (idv a).cells.toList = u8s a.1 := by simp [idv, Value.cells]
      rw [hs, hcell, keyLits_array hk _ _ (by rw [hlen, hc]), hc2]
      obtain ⟨ys, hys⟩ := mapM_some (f := fun i => P.keyLits (s + 1) e (((u8s a.1).drop (i * 1)).take 1)) (l := List.range 32) (fun i hi => by
        have hi2 : i < 32 := List.mem_range.1 hi
        have hia : i < a.1.length := by rw [a.2]; exact hi2
        have : ((u8s a.1).drop (i * 1)).take 1 = [u8v a.1[i]] := by
          rw [Nat.mul_one, u8s_drop, u8s_take, List.drop_eq_getElem_cons hia]
          rfl
        rw [this]
        exact keyLits_u8 he s _)
      exact ⟨_, by rw [hys]; rfl⟩
    obtain ⟨ls, hls⟩ := hls
    refine ⟨.string (keyBytes ls), ?_⟩
    rw [keyOf, hk]
    simp only [hkt2, hf, Bool.and_self, if_true, hls, Option.map_some]
  inj a b h := by
    have : u8s a.1 = u8s b.1 := by
      have := Value.agg.inj h
      simpa using congrArg Array.toList this
    exact Subtype.ext (u8s_inj this)
/-- A pair of numbers as a key. -/
def u32v2 (x : U32 × U32) : Value := .agg #[u32v x.1, u32v x.2]
theorem keyLits_u32 {e : TypeId} (he : P.underlying e = some (.int .u32)) (d : Nat) (x : U32) : P.keyLits (d + 1) e [u32v x] = some [.int .u32 (x.1 : Int)] := by
  simp only [Program.keyLits, he, u32v]
  simp [wf_u32 x]
theorem keyLits_pair {f g : Field} (hk : P.underlying k = some (.struct #[f, g])) (hfn : (f.name != "_") = true) (hgn : (g.name != "_") = true) (d : Nat) (cs : List Value) (hlen : cs.length = P.cellsOf k) : P.keyLits (d + 1) k cs = ([f, g].mapM fun f => P.keyLits d f.type ((cs.drop f.offset).take (P.cellsOf f.type))).map List.flatten := by
  conv => lhs; unfold Program.keyLits
  have ha : (#[f, g].all fun x => x.name != "_") = true := by simp [Array.all, hfn, hgn]
  simp only [hk, hlen, ha, and_self, if_true]
theorem mapkey_pair {f g : Field} (hk : P.underlying k = some (.struct #[f, g])) (hf1 : P.underlying f.type = some (.int .u32)) (hg1 : P.underlying g.type = some (.int .u32)) (hfo : f.offset = 0) (hgo : g.offset = 1) (hfc : P.cellsOf f.type = 1) (hgc : P.cellsOf g.type = 1) (hfn : f.name ≠ "_") (hgn : g.name ≠ "_")
    (hl : laidOutB P = true) {m s : Nat} (hm : m + 1 ≤ 10000) (hrow : k < P.types.size) (hkt : P.keyTypeAt m k = true) (hkt2 : P.keyType k = true) (hs : P.types.size = s + 1) (hc : P.cellsOf k = 2) : MapKey P k u32v2 where
  keyed := Keyed.of_law (deep_law_laid hl hm hrow hkt (by rw [hk]))
  lit a := by
    obtain ⟨x, y⟩ := a
    have hf : (u32v2 (x, y)).formed P k = true := by simp [Value.formed, u32v2, hk, hc]
    have hls : ∃ ls, P.keyLits (P.types.size + 1) k (u32v2 (x, y)).cells.toList = some ls := by
      have hcell : (u32v2 (x, y)).cells.toList = [u32v x, u32v y] := by simp [u32v2, Value.cells]
      rw [hs, hcell]
      have e1 := keyLits_u32 (P := P) hf1 s x
      have e2 := keyLits_u32 (P := P) hg1 s y
      rw [keyLits_pair hk (by simp [hfn]) (by simp [hgn]) _ _ (by simp [hc])]
      simp [hfo, hgo, hfc, hgc, e1, e2]
    obtain ⟨ls, hls⟩ := hls
    refine ⟨.string (keyBytes ls), ?_⟩
    rw [keyOf, hk]
    simp only [hkt2, hf, Bool.and_self, if_true, hls, Option.map_some]
  inj a b h := by
    obtain ⟨x, y⟩ := a
    obtain ⟨x2, y2⟩ := b
    have := Value.agg.inj h
    simp only [u32v2, u32v, Array.mk.injEq, List.cons.injEq, Value.int.injEq, true_and, and_true] at this
    obtain ⟨e1, e2⟩ := this
    exact Prod.ext (Subtype.ext (Int.ofNat.inj e1)) (Subtype.ext (Int.ofNat.inj e2))
end
end Go.Proofs.Ytionnlckjjojnaa
namespace Go.Proofs.Ytionnlckjjojnaa
open Go.RowKit Go.Maps
set_option linter.unusedVariables false
set_option linter.unusedSimpArgs false
set_option linter.unusedSectionVars false

theorem nodup_inj {γ : Type} {l : List γ} (h : l.Nodup) {i j : Nat} {x : γ} (hi : l[i]? = some x) (hj : l[j]? = some x) : i = j := by
  obtain ⟨hi1, hi2⟩ := List.getElem?_eq_some_iff.1 hi
  obtain ⟨hj1, hj2⟩ := List.getElem?_eq_some_iff.1 hj
  have hp := List.pairwise_iff_getElem.1 h
  rcases Nat.lt_trichotomy i j with hl | hl | hl
  · exact absurd (hi2.trans hj2.symm) (hp i j hi1 hj1 hl)
  · exact hl
  · exact absurd (hj2.trans hi2.symm) (hp j i hj1 hi1 hl)
/-- A map that is ranged over: what lies in it, which keys have been told. -/
def eMapR {α β : Type} (b r : Nat) (kv : α → Value) (vv : β → Value) (m : List (α × β)) (done : List α) : Ent where
  own i := i = b ∨ i = r
  rd _ := False
  holds w := b ≠ r ∧ ∃ (es : Array MapEntry) (clock since : Nat) (seen : Array Nat), w.heap[b]? = some (.map es clock) ∧ es.toList.map (fun e => (e.key, e.val)) = m.map (fun p => (kv p.1, vv p.2)) ∧ (m.map (·.1)).Nodup ∧ (∀ e ∈ es.toList, e.born < clock) ∧ (es.toList.map (·.born)).Nodup ∧
    w.heap[r]? = some (.mapIter (some b) since seen clock) ∧ (∀ e ∈ es.toList, e.born < since) ∧ since ≤ clock ∧ (∀ e ∈ es.toList, seen.contains e.born = true ↔ ∃ a ∈ done, e.key = kv a) ∧ (∀ a, done.getLast? = some a → ∃ e ∈ es.toList, e.key = kv a ∧ ∃ s' : Array Nat, seen = s'.push e.born)
  isC := false
  lt h i hi := by
    obtain ⟨_, es, clock, since, seen, h1, _, _, _, _, h2, _⟩ := h
    rcases hi with (rfl | rfl) | hi
    · exact (Array.getElem?_eq_some_iff.1 h1).1
    · exact (Array.getElem?_eq_some_iff.1 h2).1
    · exact hi.elim
  keep h hs hd := by
    obtain ⟨hne, es, clock, since, seen, h1, a1, a2, a3, a4, h2, h3⟩ := h
    exact ⟨hne, es, clock, since, seen, (hs.block _ (Array.getElem?_eq_some_iff.1 h1).1 (hd _ (.inl (.inl rfl)))).trans h1, a1, a2, a3, a4, (hs.block _ (Array.getElem?_eq_some_iff.1 h2).1 (hd _ (.inl (.inr rfl)))).trans h2, h3⟩
  cel hc := by cases hc
class SlotMR {α β : Type} (L : List Ent) (b r : outParam Nat) (key : Nat) (kv : outParam (α → Value)) (vv : outParam (β → Value)) (m : outParam (List (α × β))) (done : outParam (List α)) (F : outParam (List Ent)) : Prop where
  perm : L.Perm (eMapR b r kv vv m done :: F)
instance (priority := high) SlotMR.hitB {α β : Type} (b r : Nat) (kv : α → Value) (vv : β → Value) (m : List (α × β)) (done : List α) (L : List Ent) : SlotMR (eMapR b r kv vv m done :: L) b r b kv vv m done L := ⟨.refl _⟩
instance (priority := high) SlotMR.hitR {α β : Type} (b r : Nat) (kv : α → Value) (vv : β → Value) (m : List (α × β)) (done : List α) (L : List Ent) : SlotMR (eMapR b r kv vv m done :: L) b r r kv vv m done L := ⟨.refl _⟩
instance SlotMR.miss {α β : Type} (x : Ent) (b r key : Nat) (kv : α → Value) (vv : β → Value) (m : List (α × β)) (done : List α) (L F : List Ent) [h : SlotMR L b r key kv vv m done F] : SlotMR (x :: L) b r key kv vv m done (x :: F) := ⟨(h.perm.cons x).trans (.swap _ _ _)⟩

section
variable {α β : Type} [DecidableEq α] {P : Program} {ρ : Operand → Value} {o : Oper} {S : Nat → Prop} {w0 w : World} {L F : List Ent} {b r key : Nat} {kv : α → Value} {vv : β → Value} {m : List (α × β)} {done : List α}
/-- The map alone again. -/
theorem St.mapR (h : St S w0 w L) (key : Nat) {kv : α → Value} {vv : β → Value} {m : List (α × β)} {done : List α} [k : SlotMR L b r key kv vv m done F] : St S w0 w (eMap b kv vv m :: F) := by
  have h1 := h.perm k.perm
  obtain ⟨hne, es, clock, since, seen, hb, a1, a2, a3, a4, _⟩ := h1.holds (eMapR b r kv vv m done) (by simp)
  have hp := List.pairwise_cons.1 h1.apart
  refine ⟨h1.step, fun y hy => ?_, fun y hy i hi => ?_, List.pairwise_cons.2 ⟨fun y hy i => ⟨fun hi => (hp.1 y hy i).1 (.inl hi), fun hi => hi.elim⟩, hp.2⟩⟩
  · rcases List.mem_cons.1 hy with rfl | hy
    · exact ⟨es, clock, hb, a1, a2, a3, a4⟩
    · exact h1.holds y (by simp [hy])
  · rcases List.mem_cons.1 hy with rfl | hy
    · exact h1.foot (eMapR b r kv vv m done) (by simp) i (.inl hi)
    · exact h1.foot y (by simp [hy]) i hi
theorem ex_range (kv : α → Value) (vv : β → Value) (h : St S w0 w L) (t : TypeId) (x : Operand) (ho : o.op = .range t x) (b : Nat) (hx : ρ x = .map (some b)) {k e : TypeId} {z : Value} [T : MapTy P t k e z] {m : List (α × β)} [sm : SlotM L b kv vv m F] :
    Runs P ρ o w fun v w' => ∃ r, v = .pointer (some ⟨r, 0, none⟩) ∧ St S w0 w' (eMapR b r kv vv m [] :: F) := by
  have h1 := h.perm sm.perm
  obtain ⟨es, clock, hb, he, hn, hc, hbn⟩ := h.map b (k := sm)
  have hlt := (Array.getElem?_eq_some_iff.1 hb).1
  have hrun := run_range_map (P := P) w t k e b es clock T.und hb
  refine ⟨by simp [ho], by simp [Oper.about, ho], .pointer (some ⟨w.heap.size, 0, none⟩), w.alloc (.mapIter (some b) clock #[] clock), .inl ?_, w.heap.size, rfl, ?_⟩
  · unfold execOp
    simp [ho, hx, hrun, Result.andThen]
  · have h2 := h1.quiet ((Step.refl (fun _ => False) w).alloc (.mapIter (some b) clock #[] clock))
    have hp := List.pairwise_cons.1 h1.apart
    have hp2 := List.pairwise_cons.1 h2.apart
    refine ⟨h2.step, fun y hy => ?_, fun y hy i hi => ?_, List.pairwise_cons.2 ⟨fun y hy i => ⟨fun hi hyi => ?_, fun hi => hi.elim⟩, hp2.2⟩⟩
    · rcases List.mem_cons.1 hy with rfl | hy
      · refine ⟨by omega, es, clock, clock, #[], ?_, he, hn, hc, hbn, World.alloc_heap_new _ _, hc, Nat.le_refl _, fun e he => by simp, fun a ha => by simp at ha⟩
        show (w.heap.push _)[b]? = _
        rw [Array.getElem?_push_lt hlt, ← Array.getElem?_eq_getElem hlt]
        exact hb
      · exact h2.holds y (by simp [hy])
    · rcases List.mem_cons.1 hy with rfl | hy
      · rcases hi with rfl | rfl
        · exact h1.foot (eMap i kv vv m) (by simp) i rfl
        · exact .inr h1.step.size
      · exact h1.foot y (by simp [hy]) i hi
    · rcases hi with rfl | rfl
      · exact (hp.1 y hy i).1 rfl hyi
      · have := y.lt (h1.holds y (by simp [hy])) w.heap.size hyi
        omega
theorem ex_mnext (h : St S w0 w L) (x : Operand) (ho : o.op = .next x false) (r : Nat) (hx : ρ x = .pointer (some ⟨r, 0, none⟩)) {kv : α → Value} {vv : β → Value} {m : List (α × β)} {done : List α} [sm : SlotMR L b r r kv vv m done F] (hinj : ∀ a b, kv a = kv b → a = b) :
    Runs P ρ o w fun v w' => (v = .tuple #[.bool false] ∧ (∀ p ∈ m, p.1 ∈ done) ∧ St S w0 w' (eMapR b r kv vv m done :: F)) ∨ ∃ a u, mget m a = some u ∧ a ∉ done ∧ v = .tuple #[.bool true, kv a, vv u] ∧ St S w0 w' (eMapR b r kv vv m (done ++ [a]) :: F) := by
  have h1 := h.perm sm.perm
  obtain ⟨hne, es, clock, since, seen, hb, he, hn, hc, hbn, hr, hold, hsc, hseen, hlast⟩ := h1.holds (eMapR b r kv vv m done) (by simp)
  have exec : ∀ v w', (Instr.next (.pointer (some ⟨r, 0, none⟩)) false o.type).run P w = .ok v w' → (execOp ρ o).run P w = .ok (.value v) w' := fun v w' hrun => by
    unfold execOp
    simp [ho, hx, hrun, Result.andThen]
  rcases run_next_at (P := P) w o.type r b since clock seen es clock hr hb hold hsc with ⟨h0, hrun⟩ | ⟨e, hel, w1, hal, hrun⟩
  · refine ⟨by simp [ho], by simp [Oper.about, ho], _, _, .inl (exec _ _ hrun), .inl ⟨rfl, fun p hp => ?_, h1⟩⟩
    obtain ⟨x, hxm, hxk⟩ := map_mem he hp
    obtain ⟨a, ha, hk⟩ := (hseen x hxm).1 (all_seen es seen h0 x hxm)
    have := hinj _ _ (hxk.symm.trans hk)
    rw [this]
    exact ha
  · obtain ⟨hem, hes⟩ := mem_left hel
    obtain ⟨j, hj⟩ := List.getElem?_of_mem hem
    obtain ⟨p, hp1, hp2, hp3⟩ := map_at he hj
    refine ⟨by simp [ho], by simp [Oper.about, ho], _, _, .inl (exec _ _ hrun), .inr ⟨p.1, p.2, mget_at hn hp1, fun hd => ?_, by rw [hp2, hp3], ?_⟩⟩
    · have := (hseen e hem).2 ⟨p.1, hd, hp2⟩
      rw [hes] at this
      cases this
    · have hw1 : St S w0 w1 (eMapR b r kv vv m done :: F) := by rcases hal with rfl | rfl; exact h1; exact h1.drew
      have hr1 : w1.heap[r]? = some (.mapIter (some b) since seen clock) := by rcases hal with rfl | rfl <;> exact hr
      have hb1 : w1.heap[b]? = some (.map es clock) := by rcases hal with rfl | rfl <;> exact hb
      have hrl := (Array.getElem?_eq_some_iff.1 hr1).1
      have step : Step (fun i => i = r) w1 (ChangeMaps.setBlock w1 r (.mapIter (some b) since (seen.push e.born) clock)) := ⟨rfl, rfl, rfl, by simp [ChangeMaps.setBlock], fun i _ hi => by simp [ChangeMaps.setBlock, Array.getElem?_setIfInBounds, Ne.symm hi]⟩
      refine hw1.set (e := eMapR b r kv vv m done) (k := ⟨.refl _⟩) (eMapR b r kv vv m (done ++ [p.1])) (step.mono fun i _ hi => .inr hi) ⟨hne, es, clock, since, seen.push e.born, ?_, he, hn, hc, hbn, ?_, hold, hsc, fun x hx => ?_, fun a ha => ?_⟩ (fun i hi => .inl hi) (fun _ hi => hi)
      · simp [ChangeMaps.setBlock, Array.getElem?_setIfInBounds, Ne.symm hne, hb1]
      · simp [ChangeMaps.setBlock, Array.getElem?_setIfInBounds, hrl]
      · rw [Array.contains_push]
        simp only [Bool.or_eq_true, beq_iff_eq]
        constructor
        · rintro (hxs | hxb)
          · obtain ⟨a, ha, hk⟩ := (hseen x hx).1 hxs
            exact ⟨a, by simp [ha], hk⟩
          · have hxe : x = e := by
              obtain ⟨i, hi⟩ := List.getElem?_of_mem hx
              have hij : i = j := nodup_inj hbn (x := e.born) (by rw [List.getElem?_map, hi, Option.map_some, hxb]) (by rw [List.getElem?_map, hj]; rfl)
              subst hij
              rw [hi] at hj
              exact Option.some.inj hj
            subst hxe
            exact ⟨p.1, by simp, hp2⟩
        · rintro ⟨a, ha, hk⟩
          rcases List.mem_append.1 ha with ha | ha
          · exact .inl ((hseen x hx).2 ⟨a, ha, hk⟩)
          · rw [List.mem_singleton] at ha
            subst ha
            right
            obtain ⟨i, hi⟩ := List.getElem?_of_mem hx
            obtain ⟨q, hq1, hq2, hq3⟩ := map_at he hi
            have hqa : q.1 = p.1 := hinj _ _ (hq2.symm.trans hk)
            have hij : i = j := nodup_inj hn (x := p.1) (by rw [List.getElem?_map, hq1, Option.map_some, hqa]) (by rw [List.getElem?_map, hp1]; rfl)
            subst hij
            rw [hj] at hi
            cases hi
            rfl
      · simp at ha
        subst ha
        exact ⟨e, hem, hp2, seen, rfl⟩
theorem ex_mentry (h : St S w0 w L) (x : Operand) (ho : o.op = .entry x) (r : Nat) (hx : ρ x = .pointer (some ⟨r, 0, none⟩)) {kv : α → Value} {vv : β → Value} {m : List (α × β)} {pre : List α} {a : α} [sm : SlotMR L b r r kv vv m (pre ++ [a]) F] (hinj : ∀ a b, kv a = kv b → a = b) {u : β} (hu : mget m a = some u) :
    Reads P ρ o w (.tuple #[kv a, vv u]) := by
  have h1 := h.perm sm.perm
  obtain ⟨hne, es, clock, since, seen, hb, he, hn, hc, hbn, hr, hold, hsc, hseen, hlast⟩ := h1.holds (eMapR b r kv vv m (pre ++ [a])) (by simp)
  obtain ⟨e, hem, hek, s', rfl⟩ := hlast a (by simp)
  have hrun := run_entry_at (P := P) w r b since s' es clock e hr hb hem hbn
  obtain ⟨j, hj⟩ := List.getElem?_of_mem hem
  obtain ⟨p, hp1, hp2, hp3⟩ := map_at he hj
  have hpa : p.1 = a := hinj _ _ (hp2.symm.trans hek)
  have hpu := mget_at hn hp1
  rw [hpa, hu] at hpu
  cases hpu
  refine ⟨by simp [ho], by simp [Oper.about, ho], ?_⟩
  unfold execOp
  simp [ho, hx, hrun, Result.andThen, hek, hp3]
/-- A key that is there, stored into while one ranges. -/
theorem run_mputR (h : St S w0 w L) (t : TypeId) (b : Nat) {k e : TypeId} {z : Value} [T : MapTy P t k e z] {r : Nat} {kv : α → Value} {vv : β → Value} {m : List (α × β)} {done : List α} [sm : SlotMR L b r b kv vv m done F] [K : MapKey P k kv] (a : α) (v : β) {u : β} (hu : mget m a = some u) :
    ∃ w', (Instr.mapUpdate t (.map (some b)) (kv a) (vv v)).run P w = .ok () w' ∧ St S w0 w' (eMapR b r kv vv (mset m a v) done :: F) := by
  have h1 := h.perm sm.perm
  obtain ⟨hne, es, clock, since, seen, hb, he, hn, hc, hbn, hr, hold, hsc, hseen, hlast⟩ := h1.holds (eMapR b r kv vv m done) (by simp)
  have hlt := (Array.getElem?_eq_some_iff.1 hb).1
  obtain ⟨l, hl⟩ := K.lit a
  have step : ∀ o' : Obj, Step (fun i => i = b) w { w with heap := w.heap.setIfInBounds b o' } := fun o' => ⟨rfl, rfl, rfl, by simp, fun i _ hi => by simp [Array.getElem?_setIfInBounds, Ne.symm hi]⟩
  have same : ∀ o' : Obj, ({ w with heap := w.heap.setIfInBounds b o' } : World).heap[b]? = some o' := fun o' => by simp [Array.getElem?_setIfInBounds, hlt]
  have other : ∀ o' : Obj, ({ w with heap := w.heap.setIfInBounds b o' } : World).heap[r]? = w.heap[r]? := fun o' => by simp [Array.getElem?_setIfInBounds, hne]
  rcases map_find (P := P) (k := k) he hn a w with ⟨_, h2, _⟩ | ⟨j, x, v0, h1', h2, h3, h4, h5, h6⟩
  · rw [hu] at h2; cases h2
  · have hst := K.keyed.stays w hl
    have h2' : es[j]? = some x := by rw [← Array.getElem?_toList]; exact h2
    refine ⟨_, by simp [Instr.mapUpdate, run_underlying T.und, MapKept.run_getObj_map hb, K.keyed.check w _ hl, h1', h2', h3, hst, MapKept.run_setObj_map _ hb, Result.andThen]; rfl, ?_⟩
    have hj : j < es.toList.length := (List.getElem?_eq_some_iff.1 h2).1
    have hx : es.toList[j] = x := (List.getElem?_eq_some_iff.1 h2).2
    have e1 : (es.toList.map (·.born)).set j x.born = es.toList.map (·.born) := by
      have : (es.toList.map (·.born))[j]? = some x.born := by rw [List.getElem?_map, h2]; rfl
      apply List.ext_getElem?
      intro i
      rw [List.getElem?_set]
      by_cases hi : j = i
      · subst hi; rw [this]; simp only [List.length_map, hj, if_true]
      · simp [hi]
    refine h1.set (e := eMapR b r kv vv m done) (k := ⟨.refl _⟩) (eMapR b r kv vv (mset m a v) done) ((step _).mono fun i _ hi => .inl hi) ⟨hne, _, _, since, seen, same _, ?_, mset_nodup hn a v, ?_, ?_, (other _).trans hr, ?_, hsc, ?_, ?_⟩ (fun i hi => .inl hi) (fun _ hi => hi)
    · rw [modify_toList, modify_set h2, mset_at hn h4 v]
      rw [List.map_set, List.map_set, he]
    · intro y hy
      rw [modify_toList, modify_set h2] at hy
      rcases List.mem_or_eq_of_mem_set hy with hy | rfl
      · exact hc y hy
      · exact hc x (List.mem_of_getElem? h2)
    · rw [modify_toList, modify_set h2, List.map_set, e1]
      exact hbn
    · intro y hy
      rw [modify_toList, modify_set h2] at hy
      rcases List.mem_or_eq_of_mem_set hy with hy | rfl
      · exact hold y hy
      · exact hold x (List.mem_of_getElem? h2)
    · intro y hy
      rw [modify_toList, modify_set h2] at hy
      rcases List.mem_or_eq_of_mem_set hy with hy | rfl
      · exact hseen y hy
      · have := hseen x (List.mem_of_getElem? h2)
        rw [h3] at this
        exact this
    · intro a' ha'
      obtain ⟨y, hy, hk, s', hs'⟩ := hlast a' ha'
      rw [modify_toList, modify_set h2]
      by_cases hyx : y = x
      · subst hyx
        exact ⟨_, List.mem_set hj _, by rw [← hk, h3], s', hs'⟩
      · obtain ⟨i, hi⟩ := List.getElem?_of_mem hy
        have hij : j ≠ i := fun e => hyx (by subst e; rw [h2] at hi; cases hi; rfl)
        exact ⟨y, List.mem_of_getElem? (i := i) (by rw [List.getElem?_set_ne hij]; exact hi), hk, s', hs'⟩
theorem ex_mputR (h : St S w0 w L) (t : TypeId) (x y v0 : Operand) (ho : o.op = .mapUpdate t x y v0) (b : Nat) (hx : ρ x = .map (some b)) (a : α) {kv : α → Value} (hy : ρ y = kv a) (v : β) {vv : β → Value} (hv : ρ v0 = vv v) {k e : TypeId} {z : Value} [T : MapTy P t k e z] {r : Nat} {m : List (α × β)} {done : List α} [sm : SlotMR L b r b kv vv m done F] [K : MapKey P k kv] {u : β} (hu : mget m a = some u) :
    Runs P ρ o w fun q w' => q = undef ∧ St S w0 w' (eMapR b r kv vv (mset m a v) done :: F) := by
  obtain ⟨w', hrun, h2⟩ := run_mputR h t b a v (P := P) (k := k) (kv := kv) (vv := vv) hu
  refine ⟨by simp [ho], by simp [Oper.about, ho], _, w', .inr ⟨?_, rfl⟩, rfl, h2⟩
  unfold execOp
  simp [ho, hx, hy, hv, hrun, Result.andThen]
end
end Go.Proofs.Ytionnlckjjojnaa
namespace Go.Proofs.Ytionnlckjjojnaa
open Go.RowKit Go.ChangeShapes Go.WideShapes Go.Deep

/-- Whatever cells read as data of type t fulfil R. -/
def Opens (P : Program) (w : World) (t : TypeId) (R : List Value → Prop) : Prop :=
  ∀ (H : Type) (enc : TypeId × Value → H) (base : Nat) (spare : Nat → Bool) (held : Bool) (fuel : Nat) (cs : List Value) (x : DataW H × List MemPlace), DataW.trod enc P w base spare held fuel t cs = some x → R cs

section
variable {P : Program} {w : World} {t e : TypeId}

theorem Opens.mono {R R' : List Value → Prop} (h : Opens P w t R) (hr : ∀ cs, R cs → R' cs) : Opens P w t R' := fun H enc base spare held fuel cs x hx => hr _ (h H enc base spare held fuel cs x hx)
theorem opens_int {k : IntKind} (ht : P.underlying t = some (.int k)) : Opens P w t (fun cs => ∃ n, cs = [.int k n] ∧ (Lit.int k n).wf = true) :=
  fun _ _ _ _ _ _ _ _ h => let ⟨n, h1, _, h2⟩ := DataW.trod_int ht h; ⟨n, h1, h2⟩
theorem opens_bool (ht : P.underlying t = some .bool) : Opens P w t (fun cs => ∃ b, cs = [.bool b]) :=
  fun _ _ _ _ _ _ _ _ h => let ⟨n, h1, _⟩ := DataW.trod_bool ht h; ⟨n, h1⟩
theorem opens_string (ht : P.underlying t = some .string) : Opens P w t (fun cs => ∃ l : List UInt8, cs = [.string (str l)] ∧ l.length ≤ maxLen) :=
  fun _ _ _ _ _ _ _ _ h => let ⟨n, h1, _, h2⟩ := DataW.trod_string ht h; ⟨n.data.toList, by rw [h1, ← str_of], by rw [← str_size, ← str_of]; exact h2⟩
theorem opens_u8 (ht : P.underlying t = some (.int .u8)) : Opens P w t (fun cs => ∃ x : UInt8, cs = [u8v x]) :=
  (opens_int ht).mono fun cs ⟨n, h, hw⟩ => by
    have hb := bounds_u8 hw
    refine ⟨UInt8.ofNat n.toNat, ?_⟩
    rw [h, u8v, UInt8.toNat_ofNat']
    congr 2
    have : n.toNat % 2 ^ 8 = n.toNat := Nat.mod_eq_of_lt (by omega)
    rw [this]
    omega

theorem flatten_single {α : Type} (f : α → Value) : ∀ l : List α, (l.map fun x => [f x]).flatten = l.map f
  | [] => rfl
  | _ :: l => by simp [flatten_single f l]

theorem flatten_of_chunks {sz : Nat} : ∀ (n : Nat) (cs : List Value), cs.length = n * sz → cs = ((List.range n).map fun i => (cs.drop (i * sz)).take sz).flatten
  | 0, cs, h => by simp at h; simp [h]
  | n + 1, cs, h => by
    rw [List.range_succ_eq_map]
    simp only [List.map_cons, List.flatten_cons, List.map_map, Nat.zero_mul, List.drop_zero]
    have ih := flatten_of_chunks (sz := sz) n (cs.drop sz) (by rw [List.length_drop, h, Nat.succ_mul]; omega)
    have e : ((fun i => (cs.drop (i * sz)).take sz) ∘ Nat.succ) = fun i => ((cs.drop sz).drop (i * sz)).take sz := by
      funext i
      simp only [Function.comp, List.drop_drop, Nat.succ_mul]
      congr 2
      omega
    rw [e, ← ih, List.take_append_drop]

theorem opens_array {n sz : Nat} {R : List Value → Prop} (ht : P.underlying t = some (.array n e)) (hc : P.cellsOf e = sz) (hn : P.cellsOf t = n * sz) (he : Opens P w e R) :
    Opens P w t (fun cs => ∃ xss : List (List Value), xss.length = n ∧ (∀ xs ∈ xss, R xs) ∧ cs = xss.flatten) := by
  intro H enc base spare held fuel cs x h
  obtain ⟨xs, m, _, _, hl, hlen, hf⟩ := DataW.trod_array ht h
  rw [hc] at hf
  refine ⟨(List.range n).map fun i => (cs.drop (i * sz)).take sz, by simp, ?_, flatten_of_chunks (sz := sz) n cs (by omega)⟩
  intro ys hys
  simp only [List.mem_map, List.mem_range] at hys
  obtain ⟨i, hi, rfl⟩ := hys
  have h1 := hf i hi
  rw [List.getElem?_eq_getElem (by omega)] at h1
  exact he H enc base spare held m _ _ h1

theorem opens_bytes_array {n : Nat} (ht : P.underlying t = some (.array n e)) (he : P.underlying e = some (.int .u8)) (hc : P.cellsOf e = 1) (hn : P.cellsOf t = n) :
    Opens P w t (fun cs => ∃ l : List UInt8, l.length = n ∧ cs = u8s l) :=
  (opens_array ht hc (by omega) (opens_u8 he)).mono fun cs ⟨xss, hl, hx, hcs⟩ => by
    subst hcs
    have key : ∀ (xss : List (List Value)), (∀ xs ∈ xss, ∃ x, xs = [u8v x]) → ∃ l : List UInt8, l.length = xss.length ∧ xss.flatten = u8s l := by
      intro xss
      induction xss with
      | nil => intro _; exact ⟨[], rfl, rfl⟩
      | cons xs xss ih =>
        intro hx
        obtain ⟨y, rfl⟩ := hx xs (by simp)
        obtain ⟨l, h1, h2⟩ := ih (fun zs hz => hx zs (by simp [hz]))
        exact ⟨y :: l, by simp [h1], by simp [h2, u8s]⟩
    obtain ⟨l, h1, h2⟩ := key xss hx
    exact ⟨l, by omega, h2⟩

def FieldsR : List (List Value → Prop) → List Value → Prop
  | [], cs => cs = []
  | R :: Rs, cs => ∃ a b, cs = a ++ b ∧ R a ∧ FieldsR Rs b

def contig (P : Program) : Nat → List Field → Bool
  | _, [] => true
  | off, f :: r => f.offset == off && contig P (off + P.cellsOf f.type) r
def OpensAll (P : Program) (w : World) : List Field → List (List Value → Prop) → Prop
  | [], [] => True
  | f :: fs, R :: Rs => Opens P w f.type R ∧ OpensAll P w fs Rs
  | _, _ => False
def sumCells (P : Program) (fs : List Field) : Nat := (fs.map fun f => P.cellsOf f.type).sum

theorem fields_of {H : Type} {enc : TypeId × Value → H} {base : Nat} {spare : Nat → Bool} {held : Bool} {n : Nat} (cs : List Value) : ∀ (fs : List Field) (Rs : List (List Value → Prop)) (off : Nat), contig P off fs = true → OpensAll P w fs Rs →
    (∀ f ∈ fs, ∃ x, DataW.trod enc P w base spare held n f.type ((cs.drop f.offset).take (P.cellsOf f.type)) = some x) → FieldsR Rs ((cs.drop off).take (sumCells P fs))
  | [], [], off, _, _, _ => by simp [FieldsR, sumCells]
  | [], _ :: _, _, _, h, _ => h.elim
  | _ :: _, [], _, _, h, _ => h.elim
  | f :: fs, R :: Rs, off, hc, ho, hx => by
    simp only [contig, Bool.and_eq_true, beq_iff_eq] at hc
    obtain ⟨hoff, hc⟩ := hc
    obtain ⟨x, h1⟩ := hx f (by simp)
    refine ⟨(cs.drop off).take (P.cellsOf f.type), ((cs.drop (off + P.cellsOf f.type)).take (sumCells P fs)), ?_, ?_, fields_of cs fs Rs _ hc ho.2 (fun g hg => hx g (by simp [hg]))⟩
    · rw [show sumCells P (f :: fs) = P.cellsOf f.type + sumCells P fs by simp [sumCells], ← List.drop_drop, List.take_add]
    · exact ho.1 H enc base spare held n _ _ (by rw [hoff] at h1; exact h1)

theorem opens_struct {fs : Array Field} {Rs : List (List Value → Prop)} (ht : P.underlying t = some (.struct fs)) (hc : contig P 0 fs.toList = true) (hs : P.cellsOf t = sumCells P fs.toList) (ho : OpensAll P w fs.toList Rs) :
    Opens P w t (FieldsR Rs) := by
  intro H enc base spare held fuel cs x h
  obtain ⟨xs, n, _, _, hl, hlen, hf⟩ := DataW.trod_struct ht h
  have := fields_of (P := P) (w := w) (enc := enc) (base := base) (spare := spare) (held := held) (n := n) cs fs.toList Rs 0 hc ho (fun f hf' => by
    obtain ⟨i, hi, rfl⟩ := List.getElem_of_mem hf'
    have hi' : i < fs.size := by simpa using hi
    have h1 := hf i fs[i] (Array.getElem?_eq_getElem hi')
    rw [List.getElem?_eq_getElem (by omega)] at h1
    exact ⟨_, by simpa using h1⟩)
  rw [List.drop_zero, List.take_of_length_le (by omega)] at this
  exact this

theorem opens_slice {sz : Nat} {R : List Value → Prop} (ht : P.underlying t = some (.slice e)) (hc : P.cellsOf e = sz) (he : Opens P w e R) :
    Opens P w t (fun cs => ∃ (A : Option Addr) (n c : Nat) (xss : List (List Value)), cs = [.slice A n c] ∧ xss.length = n ∧ (∀ xs ∈ xss, R xs ∧ xs.length = sz) ∧ Sl w A n c sz xss.flatten) := by
  intro H enc base spare held fuel cs x h
  rcases open_slice ht h with ⟨rfl, _⟩ | ⟨a, len, cap, m, n, D, Pl, rfl, hb, hl, hm, hmm, _, hi⟩
  · exact ⟨none, 0, 0, [], rfl, rfl, by simp, Sl.nil _ _⟩
  · rw [hc] at hi
    have hlm : len ≤ m := by rw [hmm]; split <;> omega
    have hx : ∃ xss : List (List Value), xss.length = len ∧ ∀ i (h : i < xss.length), w.cells? base (a.add (i * sz)) sz = some xss[i] ∧ R xss[i] := by
      have h1 : ∀ i, ∃ cs', i < len → w.cells? base (a.add (i * sz)) sz = some cs' ∧ R cs' := fun i => by
        by_cases h' : i < len
        · obtain ⟨cs', h1, h2⟩ := hi i (by omega)
          exact ⟨cs', fun _ => ⟨h1, he _ _ _ _ _ _ _ _ h2⟩⟩
        · exact ⟨[], fun h'' => absurd h'' h'⟩
      obtain ⟨f, hf⟩ := Classical.axiomOfChoice h1
      exact ⟨(List.range len).map f, by simp, fun i h => by simp at h; simpa using hf i h⟩
    obtain ⟨xss, hlen, hxs⟩ := hx
    have hsz : ∀ xs ∈ xss, xs.length = sz := fun xs h => by
      obtain ⟨i, hi', rfl⟩ := List.getElem_of_mem h
      exact (World.cells?_some (hxs i hi').1).2.1
    have hfl : ∀ (yss : List (List Value)), (∀ ys ∈ yss, ys.length = sz) → yss.flatten.length = yss.length * sz := by
      intro yss hy
      induction yss with
      | nil => simp
      | cons ys yss ih => simp only [List.flatten_cons, List.length_append, List.length_cons, Nat.succ_mul, hy ys (by simp), ih (fun z hz => hy z (by simp [hz]))]; omega
    refine ⟨some a, len, cap, xss, rfl, hlen, fun xs h => ?_, ?_, hl, hm, fun hne => ?_⟩
    · obtain ⟨i, hi', rfl⟩ := List.getElem_of_mem h
      exact ⟨(hxs i hi').2, hsz _ h⟩
    · rw [hfl xss hsz, hlen]
    · have hcell : ∀ j u, xss.flatten[j]? = some u → w.cell? (a.add j) = some u := by
        intro j u hu
        have key : ∀ (yss : List (List Value)) (k : Nat), (∀ ys ∈ yss, ys.length = sz) → (∀ i (h : i < yss.length), ∀ q, q < sz → w.cell? (a.add ((k + i) * sz + q)) = yss[i][q]?) → ∀ j u, yss.flatten[j]? = some u → w.cell? (a.add (k * sz + j)) = some u := by
          intro yss
          induction yss with
          | nil => intro k _ _ j u h; simp at h
          | cons ys yss ih =>
            intro k hs hc j u h
            have hys := hs ys (by simp)
            by_cases hj : j < sz
            · have h0 := hc 0 (by simp) j hj
              simp only [Nat.add_zero, List.getElem_cons_zero] at h0
              rw [h0]
              rw [List.flatten_cons, List.getElem?_append_left (by omega)] at h
              exact h
            · have h2 := ih (k + 1) (fun z hz => hs z (by simp [hz])) (fun i hi q hq => by
                have := hc (i + 1) (by simp; omega) q hq
                rw [show k + 1 + i = k + (i + 1) by omega]
                simpa using this) (j - sz) u (by rw [List.flatten_cons, List.getElem?_append_right (by omega), hys] at h; exact h)
              rw [show k * sz + j = (k + 1) * sz + (j - sz) by rw [Nat.succ_mul]; omega]
              exact h2
        have := key xss 0 hsz (fun i h q hq => by
          have h1 := (World.cells?_some (hxs i h).1).2.2 q hq
          rw [← h1, Nat.zero_add]
          exact congrArg _ (Go.Deep.add_add a (i * sz) q).symm) j u hu
        simpa using this
      obtain ⟨b, off, spot⟩ := a
      have h0 : ∃ u, xss.flatten[0]? = some u := ⟨_, List.getElem?_eq_getElem (List.length_pos_iff.2 hne)⟩
      obtain ⟨u, hu⟩ := h0
      have hc0 := hcell 0 u hu
      have hspot : spot = none := by simpa [Addr.add] using World.cell?_spot hc0
      subst hspot
      refine ⟨b, off, rfl, ?_, fun i u hu => ?_⟩
      · have := World.block_lt_of_cell? w _ hc0
        simpa [Addr.add] using this
      · have := hcell i u hu
        rwa [add_none] at this
end

/-- A list all of whose members come out of something. -/
theorem list_choose {α β : Type} {f : β → α} {q : β → Prop} : ∀ (l : List α), (∀ x ∈ l, ∃ y, x = f y ∧ q y) → ∃ m : List β, l = m.map f ∧ ∀ y ∈ m, q y
  | [], _ => ⟨[], rfl, by simp⟩
  | x :: l, h => by
    obtain ⟨y, rfl, hy⟩ := h x (by simp)
    obtain ⟨m, rfl, hm⟩ := list_choose l (fun z hz => h z (by simp [hz]))
    exact ⟨y :: m, rfl, by simpa using ⟨hy, hm⟩⟩

section
variable {P : Program} {w : World} {t e : TypeId}
theorem opens_bytes (ht : P.underlying t = some (.slice e)) (he : P.underlying e = some (.int .u8)) (hc : P.cellsOf e = 1) :
    Opens P w t (fun cs => ∃ A n c l, cs = [.slice A n c] ∧ Sl w A n c 1 (u8s l)) :=
  (opens_slice ht hc (opens_u8 he)).mono fun cs ⟨A, n, c, xss, h1, _, h3, h4⟩ => by
    obtain ⟨m, rfl, _⟩ := list_choose (f := fun x => [u8v x]) (q := fun _ => True) xss (fun x hx => let ⟨y, hy⟩ := (h3 x hx).1; ⟨y, hy, trivial⟩)
    refine ⟨A, n, c, m, h1, ?_⟩
    have : (m.map fun x => [u8v x]).flatten = u8s m := flatten_single _ m
    rwa [this] at h4
theorem opens_strs (ht : P.underlying t = some (.slice e)) (he : P.underlying e = some .string) (hc : P.cellsOf e = 1) :
    Opens P w t (fun cs => ∃ (A : Option Addr) (n c : Nat) (l : List (List UInt8)), cs = [.slice A n c] ∧ (∀ x ∈ l, x.length ≤ maxLen) ∧ Sl w A n c 1 (strs l)) :=
  (opens_slice ht hc (opens_string he)).mono fun cs ⟨A, n, c, xss, h1, _, h3, h4⟩ => by
    obtain ⟨m, rfl, hm⟩ := list_choose (f := fun x => [strv x]) (q := fun x => x.length ≤ maxLen) xss (fun x hx => (h3 x hx).1)
    refine ⟨A, n, c, m, h1, hm, ?_⟩
    have : (m.map fun x => [strv x]).flatten = strs m := flatten_single _ m
    rwa [this] at h4
/-- Numbers as cells. -/
def ints (k : IntKind) (l : List Int) : List Value := l.map (Value.int k)
theorem opens_ints {k : IntKind} (ht : P.underlying t = some (.slice e)) (he : P.underlying e = some (.int k)) (hc : P.cellsOf e = 1) :
    Opens P w t (fun cs => ∃ A n c l, cs = [.slice A n c] ∧ (∀ x ∈ l, (Lit.int k x).wf = true) ∧ Sl w A n c 1 (ints k l)) :=
  (opens_slice ht hc (opens_int he)).mono fun cs ⟨A, n, c, xss, h1, _, h3, h4⟩ => by
    obtain ⟨m, rfl, hm⟩ := list_choose (f := fun x => [Value.int k x]) (q := fun x => (Lit.int k x).wf = true) xss (fun x hx => (h3 x hx).1)
    refine ⟨A, n, c, m, h1, hm, ?_⟩
    have : (m.map fun x => [Value.int k x]).flatten = ints k m := flatten_single _ m
    rwa [this] at h4
end

section
variable {H : Type} {enc : TypeId × Value → H} {P : Program} {w : World} {base : Nat} {spare : Nat → Bool} {held : Bool} {r : Reach} {b0 : Nat} {t e : TypeId} {v : Value} {d : DataW H} {ps : List MemPlace}
theorem read_of {R : List Value → Prop} (ho : Opens P w t R) (h : DataW.Trod enc P w base spare held t v d ps) : R v.cells.toList := by
  obtain ⟨fuel, hf⟩ := h
  exact ho H enc base spare held fuel _ _ hf
theorem arg_bytes (ht : P.underlying t = some (.slice e)) (he : P.underlying e = some (.int .u8)) (hc : P.cellsOf e = 1) (hv : Value.okWide P w r b0 t v) (h : DataW.Trod enc P w base spare held t v d ps) :
    ∃ A n c l, v = .slice A n c ∧ Sl w A n c 1 (u8s l) := by
  obtain ⟨a, len, cap, rfl⟩ := okWide_slice ht hv
  obtain ⟨A, n, c, l, h1, h2⟩ := read_of (opens_bytes ht he hc) h
  simp [Value.cells] at h1
  obtain ⟨rfl, rfl, rfl⟩ := h1
  exact ⟨_, _, _, l, rfl, h2⟩
theorem arg_ints {k : IntKind} (ht : P.underlying t = some (.slice e)) (he : P.underlying e = some (.int k)) (hc : P.cellsOf e = 1) (hv : Value.okWide P w r b0 t v) (h : DataW.Trod enc P w base spare held t v d ps) :
    ∃ A n c l, v = .slice A n c ∧ (∀ x ∈ l, (Lit.int k x).wf = true) ∧ Sl w A n c 1 (ints k l) := by
  obtain ⟨a, len, cap, rfl⟩ := okWide_slice ht hv
  obtain ⟨A, n, c, l, h1, h2, h3⟩ := read_of (opens_ints ht he hc) h
  simp [Value.cells] at h1
  obtain ⟨rfl, rfl, rfl⟩ := h1
  exact ⟨_, _, _, l, rfl, h2, h3⟩
theorem arg_strs (ht : P.underlying t = some (.slice e)) (he : P.underlying e = some .string) (hc : P.cellsOf e = 1) (hv : Value.okWide P w r b0 t v) (h : DataW.Trod enc P w base spare held t v d ps) :
    ∃ A n c l, v = .slice A n c ∧ (∀ x ∈ l, x.length ≤ maxLen) ∧ Sl w A n c 1 (strs l) := by
  obtain ⟨a, len, cap, rfl⟩ := okWide_slice ht hv
  obtain ⟨A, n, c, l, h1, h2, h3⟩ := read_of (opens_strs ht he hc) h
  simp [Value.cells] at h1
  obtain ⟨rfl, rfl, rfl⟩ := h1
  exact ⟨_, _, _, l, rfl, h2, h3⟩
theorem arg_int {k : IntKind} (ht : P.underlying t = some (.int k)) (hv : Value.okWide P w r b0 t v) (h : DataW.Trod enc P w base spare held t v d ps) : ∃ x, v = .int k x ∧ (Lit.int k x).wf = true := by
  obtain ⟨x, rfl, _, _, hw⟩ := open_int ht hv h
  exact ⟨x, rfl, hw⟩
theorem arg_bool (ht : P.underlying t = some .bool) (hv : Value.okWide P w r b0 t v) (h : DataW.Trod enc P w base spare held t v d ps) : ∃ x, v = .bool x := by
  obtain ⟨x, rfl, _, _⟩ := open_bool ht hv h
  exact ⟨x, rfl⟩
theorem arg_string (ht : P.underlying t = some .string) (hv : Value.okWide P w r b0 t v) (h : DataW.Trod enc P w base spare held t v d ps) : ∃ l : List UInt8, v = .string (str l) ∧ l.length ≤ maxLen := by
  obtain ⟨x, rfl, _, _, hw⟩ := Go.ChangeMaps.open_string ht hv h
  exact ⟨x.data.toList, by rw [← str_of], by rw [← str_size, ← str_of]; exact hw⟩
/-- An array or a struct by value. -/
theorem arg_agg {R : List Value → Prop} (ht : (∃ fs, P.underlying t = some (.struct fs)) ∨ ∃ n e, P.underlying t = some (.array n e)) (ho : Opens P w t R) (hv : Value.okWide P w r b0 t v) (h : DataW.Trod enc P w base spare held t v d ps) :
    ∃ cs : List Value, v = .agg cs.toArray ∧ R cs := by
  have hc : ∃ cs, v = .agg cs := by
    rcases ht with ⟨fs, ht⟩ | ⟨n, e, ht⟩
    · obtain ⟨cs, h, _⟩ := okWide_struct ht hv; exact ⟨cs, h⟩
    · simp only [Value.okWide, ht] at hv
      obtain ⟨cs, h, _⟩ := hv; exact ⟨cs, h⟩
  obtain ⟨cs, rfl⟩ := hc
  exact ⟨cs.toList, by simp, by simpa [Value.cells] using read_of ho h⟩
end

end Go.Proofs.Ytionnlckjjojnaa
namespace Go.Proofs.Ytionnlckjjojnaa
open Go.RowKit Go.ChangeShapes Go.WideShapes Go.Deep
set_option linter.unusedVariables false

/-- One row: where it lies, what it holds. -/
structure RowAt where
  A : Option Addr
  n : Nat
  c : Nat
  l : List UInt8
def rowc (p : RowAt) : List Value := [.slice p.A p.n p.c]
theorem rowc_length (p : RowAt) : (rowc p).length = 1 := rfl
def RowsIs (w : World) (ps : List RowAt) : Prop := ∀ p ∈ ps, Sl w p.A p.n p.c 1 (u8s p.l)
/-- Rows that are read. -/
def eRows (A : Option Addr) (n c : Nat) (ps : List RowAt) : Ent where
  own _ := False
  rd k := Ft A n k ∨ ∃ p ∈ ps, Ft p.A p.n k
  holds w := Sl w A n c 1 (ps.flatMap rowc) ∧ RowsIs w ps
  isC := true
  lt h k hk := by
    rcases hk with hk | hk | ⟨p, hp, hk⟩
    · exact hk.elim
    · exact h.1.ft_lt (by omega) hk
    · exact (h.2 p hp).ft_lt (by omega) hk
  keep h hs hd := ⟨h.1.step hs fun k hk => hd k (.inr (.inl hk)), fun p hp => (h.2 p hp).step hs fun k hk => hd k (.inr (.inr ⟨p, hp, hk⟩))⟩
  cel e w h k hk o ho := by
    rcases hk with hk | hk | ⟨p, hp, hk⟩
    · exact hk.elim
    · exact (eSl A n c 1 (ps.flatMap rowc)).cel rfl (w := w) ⟨by omega, h.1⟩ k (.inr hk) o ho
    · exact (eSl p.A p.n p.c 1 (u8s p.l)).cel rfl (w := w) ⟨by omega, h.2 p hp⟩ k (.inr hk) o ho
instance Calm.rows (A : Option Addr) (n c : Nat) (ps : List RowAt) (L : List Ent) [k : Calm L] : Calm (eRows A n c ps :: L) := Calm.cons' rfl k
instance (priority := high) HasSl.rows (A : Option Addr) (n c : Nat) (ps : List RowAt) (L : List Ent) : HasSl (eRows A n c ps :: L) A n c 1 (ps.flatMap rowc) := ⟨fun w h => (h (eRows A n c ps) List.mem_cons_self).1⟩
section
variable {S : Nat → Prop} {w0 w : World} {L F : List Ent}
theorem St.addSub {e : Ent} (h : St S w0 w L) [k : Slot L e F] (x : Ent) (hx : x.holds w) (ho : ∀ k, ¬ x.own k) (hr : ∀ k, x.rd k → e.rd k) (he : ∀ k, ¬ e.own k) : St S w0 w (x :: L) := by
  have h1 := h.perm k.perm
  have h2 := List.pairwise_cons.1 h1.apart
  refine ⟨h.step, fun y hy => ?_, fun y hy i hi => ?_, List.pairwise_cons.2 ⟨fun y hy i => ⟨fun hi => (ho i hi).elim, fun hi hy2 => ?_⟩, h.apart⟩⟩
  · rcases List.mem_cons.1 hy with rfl | hy
    · exact hx
    · exact h.holds y hy
  · rcases List.mem_cons.1 hy with rfl | hy
    · exact (ho i hi).elim
    · exact h.foot y hy i hi
  · rcases List.mem_cons.1 (k.perm.mem_iff.1 hy) with rfl | hy
    · exact he i hy2
    · exact (h2.1 y hy i).2 (hr i hi) hy2
/-- One of the rows. -/
theorem St.oneRow (h : St S w0 w L) (A : Option Addr) (n c : Nat) {ps : List RowAt} [k : Slot L (eRows A n c ps) F] {p : RowAt} (hp : p ∈ ps) : St S w0 w (eSl p.A p.n p.c 1 (u8s p.l) :: L) :=
  h.addSub (e := eRows A n c ps) (eSl p.A p.n p.c 1 (u8s p.l)) ⟨by omega, (h.get (e := eRows A n c ps)).2 p hp⟩ (fun _ h => h) (fun i hi => .inr ⟨p, hp, hi⟩) (fun _ h => h)
theorem St.rows0 {A : Option Addr} {n c : Nat} {ps : List RowAt} (hl : Sl w A n c 1 (ps.flatMap rowc)) (hp : RowsIs w ps) : St (fun _ => False) w w [eRows A n c ps] :=
  (St.nil w).addRd (eRows A n c ps) ⟨hl, hp⟩ (fun _ h => h) (fun k hk => ⟨(eRows A n c ps).lt (w := w) ⟨hl, hp⟩ k (.inr hk), id⟩)
end
/-- Rows that can be read. -/
class HasRows (L : List Ent) (A : Option Addr) (n c : Nat) (ps : outParam (List RowAt)) : Prop where
  rows : ∀ w, (∀ x ∈ L, x.holds w) → Sl w A n c 1 (ps.flatMap rowc) ∧ RowsIs w ps
instance (priority := high) HasRows.hit (A : Option Addr) (n c : Nat) (ps : List RowAt) (L : List Ent) : HasRows (eRows A n c ps :: L) A n c ps := ⟨fun w h => h (eRows A n c ps) List.mem_cons_self⟩
instance HasRows.miss (x : Ent) (A : Option Addr) (n c : Nat) (ps : List RowAt) (L : List Ent) [h : HasRows L A n c ps] : HasRows (x :: L) A n c ps := ⟨fun w hw => h.rows w (fun y hy => hw y (List.mem_cons_of_mem _ hy))⟩
theorem St.rowsAt {S : Nat → Prop} {w0 w : World} {L : List Ent} (h : St S w0 w L) (A : Option Addr) (n c : Nat) {ps : List RowAt} [k : HasRows L A n c ps] : Sl w A n c 1 (ps.flatMap rowc) ∧ RowsIs w ps := k.rows w h.holds
theorem HasRows.one {L : List Ent} {A : Option Addr} {n c : Nat} {ps : List RowAt} (k : HasRows L A n c ps) {p : RowAt} (hp : p ∈ ps) : HasSl L p.A p.n p.c 1 (u8s p.l) := ⟨fun w hw => (k.rows w hw).2 p hp⟩
theorem blk_rows {w : World} {g n : Nat} {t : TypeId} {ps : List RowAt} (h : Blk w g t (ps.flatMap rowc).toArray) (hn : ps.length = n) (hm : n ≤ 100000) : Sl w (some ⟨g, 0, none⟩) n n 1 (ps.flatMap rowc) :=
  h.sl_ (by rw [length_flatMap rowc_length, hn, Nat.mul_one]) (by simp [maxLen]; omega)
/-- Rows in a literal. -/
theorem HasRows.lit {L F : List Ent} {g n : Nat} {t : TypeId} (ps : List RowAt) [k : SlotB L g t (ps.flatMap rowc) F] (hn : ps.length = n) (hm : n ≤ 100000) (hp : ∀ p ∈ ps, HasSl L p.A p.n p.c 1 (u8s p.l)) : HasRows L (some ⟨g, 0, none⟩) n n ps :=
  ⟨fun w hw => ⟨blk_rows (hw (eBlk g t (ps.flatMap rowc)) (k.perm.mem_iff.2 List.mem_cons_self)) hn hm, fun p hpp => (hp p hpp).sl w hw⟩⟩
instance HasRows.i1 (L F : List Ent) (g : Nat) (t : TypeId) (A : Option Addr) (n c : Nat) (l : List UInt8) [k : SlotB L g t [.slice A n c] F] [h : HasSl L A n c 1 (u8s l)] : HasRows L (some ⟨g, 0, none⟩) 1 1 [⟨A, n, c, l⟩] :=
  HasRows.lit (F := F) (t := t) [⟨A, n, c, l⟩] (k := k) rfl (by omega) (by simpa using h)
instance HasRows.i2 (L F : List Ent) (g : Nat) (t : TypeId) (A A2 : Option Addr) (n c n2 c2 : Nat) (l l2 : List UInt8) [k : SlotB L g t [.slice A n c, .slice A2 n2 c2] F] [h : HasSl L A n c 1 (u8s l)] [h2 : HasSl L A2 n2 c2 1 (u8s l2)] : HasRows L (some ⟨g, 0, none⟩) 2 2 [⟨A, n, c, l⟩, ⟨A2, n2, c2, l2⟩] :=
  HasRows.lit (F := F) (t := t) [⟨A, n, c, l⟩, ⟨A2, n2, c2, l2⟩] (k := k) rfl (by omega) (by simpa using ⟨h, h2⟩)
instance HasRows.i3 (L F : List Ent) (g : Nat) (t : TypeId) (A A2 A3 : Option Addr) (n c n2 c2 n3 c3 : Nat) (l l2 l3 : List UInt8) [k : SlotB L g t [.slice A n c, .slice A2 n2 c2, .slice A3 n3 c3] F] [h : HasSl L A n c 1 (u8s l)] [h2 : HasSl L A2 n2 c2 1 (u8s l2)] [h3 : HasSl L A3 n3 c3 1 (u8s l3)] :
    HasRows L (some ⟨g, 0, none⟩) 3 3 [⟨A, n, c, l⟩, ⟨A2, n2, c2, l2⟩, ⟨A3, n3, c3, l3⟩] :=
  HasRows.lit (F := F) (t := t) [⟨A, n, c, l⟩, ⟨A2, n2, c2, l2⟩, ⟨A3, n3, c3, l3⟩] (k := k) rfl (by omega) (by simpa using ⟨h, h2, h3⟩)
theorem Sl.n_rows {w : World} {A : Option Addr} {n c : Nat} {ps : List RowAt} (h : Sl w A n c 1 (ps.flatMap rowc)) : n = ps.length := h.n_flat rowc_length (by omega)

/-- So many rows, one behind the other. -/
def catM (ps : List RowAt) (k : Nat) : List UInt8 := (ps.take k).flatMap (·.l)
theorem catM_succ (ps : List RowAt) {k : Nat} (h : k < ps.length) : catM ps (k + 1) = catM ps k ++ (ps[k]).l := by
  rw [catM, List.take_succ_eq_append_getElem h, List.flatMap_append, List.flatMap_cons, List.flatMap_nil, List.append_nil, catM]

section
variable {P : Program} {w : World} {t u e : TypeId}
theorem opens_rows (ht : P.underlying t = some (.slice u)) (hu : P.underlying u = some (.slice e)) (he : P.underlying e = some (.int .u8)) (hc : P.cellsOf u = 1) (hc2 : P.cellsOf e = 1) :
    Opens P w t (fun cs => ∃ (A : Option Addr) (n c : Nat) (ps : List RowAt), cs = [.slice A n c] ∧ Sl w A n c 1 (ps.flatMap rowc) ∧ RowsIs w ps) :=
  (opens_slice ht hc (opens_bytes hu he hc2)).mono fun cs ⟨A, n, c, xss, h1, _, h3, h4⟩ => by
    obtain ⟨m, rfl, hm⟩ := list_choose (f := rowc) (q := fun p => Sl w p.A p.n p.c 1 (u8s p.l)) xss (fun x hx => let ⟨A, n, c, l, h5, h6⟩ := (h3 x hx).1; ⟨⟨A, n, c, l⟩, h5, h6⟩)
    exact ⟨A, n, c, m, h1, by rwa [List.flatMap_def], hm⟩
variable {H : Type} {enc : TypeId × Value → H} {base : Nat} {spare : Nat → Bool} {held : Bool} {r : Reach} {b0 : Nat} {v : Value} {d : DataW H} {pl : List MemPlace}
theorem arg_rows (ht : P.underlying t = some (.slice u)) (hu : P.underlying u = some (.slice e)) (he : P.underlying e = some (.int .u8)) (hc : P.cellsOf u = 1) (hc2 : P.cellsOf e = 1) (hv : Value.okWide P w r b0 t v) (h : DataW.Trod enc P w base spare held t v d pl) :
    ∃ (A : Option Addr) (n c : Nat) (ps : List RowAt), v = .slice A n c ∧ Sl w A n c 1 (ps.flatMap rowc) ∧ RowsIs w ps := by
  obtain ⟨a, len, cap, rfl⟩ := okWide_slice ht hv
  obtain ⟨A, n, c, l, h1, h2⟩ := read_of (opens_rows ht hu he hc hc2) h
  simp [Value.cells] at h1
  obtain ⟨rfl, rfl, rfl⟩ := h1
  exact ⟨_, _, _, l, rfl, h2⟩
end
end Go.Proofs.Ytionnlckjjojnaa
namespace Go.Proofs.Ytionnlckjjojnaa
open Go.RowKit
set_option linter.unusedVariables false
section
variable {S : Nat → Prop} {w0 w : World} {L F : List Ent}
theorem Tl.cap {e : TypeId} {A : Option Addr} {n c sz : Nat} {xs : List Value} (h : Tl w e sz A n c xs) {k : Nat} (hk : k ≤ n) : Tl w e sz A k k (xs.take (k * sz)) := by
  obtain ⟨h1, h2⟩ := h.take hk
  refine ⟨h1, ?_⟩
  rcases h2 with ⟨rfl, rfl, rfl⟩ | ⟨g, off, cur, rfl, hg, h3, h4, h5, h6⟩
  · exact .inl ⟨rfl, rfl, rfl⟩
  · exact .inr ⟨g, off, cur, rfl, hg, Nat.le_refl _, by omega, by have := Nat.mul_le_mul_right sz h3; omega, h6⟩
theorem St.capRow (h : St S w0 w L) (A : Option Addr) (k : Nat) {e : TypeId} {sz n c : Nat} {xs : List Value} [ko : SlotO L A e sz n c xs F] (hk : k ≤ n) : St S w0 w (eOwn e sz A k k (xs.take (k * sz)) :: F) :=
  h.recast (k := ⟨ko.perm⟩) (eOwn e sz A k k (xs.take (k * sz))) ((h.row A (k := ko)).cap hk) (fun _ hk => hk) (fun _ hk => hk)
theorem St.blkRowK (h : St S w0 w L) (g n sz : Nat) {t : TypeId} {xs : List Value} [k : SlotB L g t xs F] (hl : xs.length = n * sz) (hn : n ≤ 1000000) : St S w0 w (eOwn t sz (some ⟨g, 0, none⟩) n n xs :: F) :=
  (h.perm k.perm).recast (e := eBlk g t xs) (k := ⟨.refl _⟩) (eOwn t sz (some ⟨g, 0, none⟩) n n xs) ⟨hl, .inr ⟨g, 0, xs.toArray, rfl, h.blk g (k := k), Nat.le_refl _, by simp [maxLen]; omega, by simp [hl], by rw [List.drop_zero]; exact List.take_of_length_le (by rw [show xs.toArray.toList = xs from rfl, hl]; exact Nat.le_refl _)⟩⟩ (fun i ⟨a, ha, hi⟩ => by cases ha; exact hi.symm) (fun _ hk => hk)
end
end Go.Proofs.Ytionnlckjjojnaa
namespace Go.Proofs.Ytionnlckjjojnaa
open Go.RowKit Go.Maps
set_option linter.unusedVariables false
set_option linter.unusedSimpArgs false
set_option linter.unusedSectionVars false

/-- A map with an entry in hand: its key, its stamp. -/
def eMapS {α β : Type} (b st : Nat) (kv : α → Value) (vv : β → Value) (m : List (α × β)) (a : α) : Ent where
  own i := i = b
  rd _ := False
  holds w := ∃ (es : Array MapEntry) (clock : Nat), w.heap[b]? = some (.map es clock) ∧ es.toList.map (fun e => (e.key, e.val)) = m.map (fun p => (kv p.1, vv p.2)) ∧ (m.map (·.1)).Nodup ∧ (∀ e ∈ es.toList, e.born < clock) ∧ (es.toList.map (·.born)).Nodup ∧
    ∃ (j : Nat) (e : MapEntry) (v : β), es.toList[j]? = some e ∧ e.born = st ∧ e.key = kv a ∧ m[j]? = some (a, v)
  isC := false
  lt h i hi := by
    obtain ⟨es, clock, h1, _⟩ := h
    rcases hi with rfl | hi
    · exact (Array.getElem?_eq_some_iff.1 h1).1
    · exact hi.elim
  keep h hs hd := by
    obtain ⟨es, clock, h1, h2⟩ := h
    exact ⟨es, clock, (hs.block _ (Array.getElem?_eq_some_iff.1 h1).1 (hd _ (.inl rfl))).trans h1, h2⟩
  cel hc := by cases hc
class SlotMS {α β : Type} (L : List Ent) (b : Nat) (st : outParam Nat) (kv : outParam (α → Value)) (vv : outParam (β → Value)) (m : outParam (List (α × β))) (a : outParam α) (F : outParam (List Ent)) : Prop where
  perm : L.Perm (eMapS b st kv vv m a :: F)
instance (priority := high) SlotMS.hit {α β : Type} (b st : Nat) (kv : α → Value) (vv : β → Value) (m : List (α × β)) (a : α) (L : List Ent) : SlotMS (eMapS b st kv vv m a :: L) b st kv vv m a L := ⟨.refl _⟩
instance SlotMS.miss {α β : Type} (x : Ent) (b st : Nat) (kv : α → Value) (vv : β → Value) (m : List (α × β)) (a : α) (L F : List Ent) [h : SlotMS L b st kv vv m a F] : SlotMS (x :: L) b st kv vv m a (x :: F) := ⟨(h.perm.cons x).trans (.swap _ _ _)⟩
section
variable {α β : Type} [DecidableEq α] {P : Program} {ρ : Operand → Value} {o : Oper} {S : Nat → Prop} {w0 w : World} {L F : List Ent} {kv : α → Value} {vv : β → Value} {m : List (α × β)}
theorem ex_look1_eq (kv : α → Value) (vv : β → Value) (h : St S w0 w L) (t : TypeId) (x y : Operand) (ho : o.op = .lookup t x y false) (b : Nat) (hx : ρ x = .map (some b)) (a : α) (hy : ρ y = kv a) {v : β} (hg : mget m a = some v) {u : Value} (hv : vv v = u) {k e : TypeId} {z : Value} [T : MapTy P t k e z] [sm : SlotM L b kv vv m F] [K : MapKey P k kv] :
    Reads P ρ o w u := by
  rw [← hv]
  exact ex_look1_some kv vv h t x y ho b hx a hy hg
theorem ex_mapEntry (z0 : β) (h : St S w0 w L) (t : TypeId) (x y : Operand) (ho : o.op = .mapEntry t x y) (b : Nat) (hx : ρ x = .map (some b)) (a : α) (hy : ρ y = kv a) {k e : TypeId} {z : Value} (hz0 : vv z0 = z) [T : MapTy P t k e z] [sm : SlotM L b kv vv m F] [K : MapKey P k kv] :
    Runs P ρ o w fun r w' => ∃ st : Nat, r = .tuple #[vv ((mget m a).getD z0), .int .i64 (st : Int)] ∧ St S w0 w' (eMapS b st kv vv (mset m a ((mget m a).getD z0)) a :: F) := by
  obtain ⟨es, clock, hb, he, hn, hc, hbn⟩ := h.map b (k := sm)
  have hlt := (Array.getElem?_eq_some_iff.1 hb).1
  obtain ⟨l, hl⟩ := K.lit a
  have step : ∀ o' : Obj, Step (fun i => i = b) w { w with heap := w.heap.setIfInBounds b o' } := fun o' => ⟨rfl, rfl, rfl, by simp, fun i _ hi => by simp [Array.getElem?_setIfInBounds, Ne.symm hi]⟩
  have same : ∀ o' : Obj, ({ w with heap := w.heap.setIfInBounds b o' } : World).heap[b]? = some o' := fun o' => by simp [Array.getElem?_setIfInBounds, hlt]
  have hz := T.zero w
  have exec : ∀ v w', (Instr.mapEntry t (.map (some b)) (kv a)).run P w = .ok v w' → (execOp ρ o).run P w = .ok (.value v) w' := fun v w' hr => by
    unfold execOp
    simp [ho, hx, hy, hr, Result.andThen]
  rcases map_find (P := P) (k := k) he hn a w with ⟨h1, h2, h3⟩ | ⟨j, x0, v0, h1, h2, h3, h4, h5, h6⟩
  · rw [h2]
    have hlen : m.length = es.toList.length := by have := congrArg List.length he; simpa using this.symm
    refine ⟨by simp [ho], by simp [Oper.about, ho], _, _, .inl (exec (.tuple #[z, goInt clock]) _ (by simp [Instr.mapEntry, run_underlying T.und, MapKept.run_getObj_map hb, K.keyed.check w _ hl, h1, hz, MapKept.run_setObj_map _ hb, Result.andThen]; rfl)), clock, by rw [← hz0]; rfl, ?_⟩
    refine h.set (e := eMap b kv vv m) (k := ⟨sm.perm⟩) (eMapS b clock kv vv (mset m a z0) a) (step _) ⟨_, _, same _, ?_, mset_nodup hn a z0, ?_, ?_, ?_⟩ (fun i hi => .inl hi) (fun _ hi => hi)
    · rw [mset_new h3, Array.toList_push, List.map_append, List.map_append, he]
      simp [hz0]
    · intro y hy
      rw [Array.toList_push, List.mem_append] at hy
      rcases hy with hy | hy
      · exact Nat.lt_succ_of_lt (hc y hy)
      · simp at hy; subst hy; exact Nat.lt_succ_self _
    · rw [Array.toList_push, List.map_append]
      refine List.nodup_append.2 ⟨hbn, by simp, ?_⟩
      intro p hp q hq
      simp at hq
      obtain ⟨y, hy, rfl⟩ := List.mem_map.1 hp
      have := hc y hy
      omega
    · refine ⟨es.toList.length, ⟨kv a, z, clock⟩, z0, by simp, rfl, rfl, ?_⟩
      rw [mset_new h3, ← hlen]
      simp
  · rw [h6]
    have hst := K.keyed.stays w hl
    have h2' : es[j]? = some x0 := by rw [← Array.getElem?_toList]; exact h2
    have hsame : es.modify j (fun e => { e with key := kv a }) = es := by
      apply Array.ext'
      rw [modify_toList, modify_set h2]
      have : ({ x0 with key := kv a } : MapEntry) = x0 := by rw [← h3]
      rw [this]
      exact WideElems.set_self _ _ _ h2
    refine ⟨by simp [ho], by simp [Oper.about, ho], _, _, .inl (exec (.tuple #[vv v0, goInt x0.born]) _ (by simp [Instr.mapEntry, run_underlying T.und, MapKept.run_getObj_map hb, K.keyed.check w _ hl, h1, h2', h3, hst, hsame, h5, MapKept.run_setObj_map _ hb, Result.andThen]; rfl)), x0.born, rfl, ?_⟩
    have hm : mset m a v0 = m := by
      rw [mset_at hn h4]
      exact WideElems.set_self _ _ _ h4
    have hg : (some v0).getD z0 = v0 := rfl
    rw [hg, hm]
    exact h.set (e := eMap b kv vv m) (k := ⟨sm.perm⟩) (eMapS b x0.born kv vv m a) (step _) ⟨es, clock, same _, he, hn, hc, hbn, j, x0, v0, h2, rfl, h3, h4⟩ (fun i hi => .inl hi) (fun _ hi => hi)
theorem ex_entryStore (h : St S w0 w L) (t : TypeId) (x y u : Operand) (ho : o.op = .entryStore t x y u) (b : Nat) (hx : ρ x = .map (some b)) {st : Nat} {a : α} [sm : SlotMS L b st kv vv m a F] (hy : ρ y = .int .i64 (st : Int)) (v : β) (hu : ρ u = vv v) :
    Runs P ρ o w fun r w' => r = undef ∧ St S w0 w' (eMap b kv vv (mset m a v) :: F) := by
  have h1 := h.perm sm.perm
  obtain ⟨es, clock, hb, he, hn, hc, hbn, j, e0, v0, h2, h3, h4, h5⟩ := h1.holds (eMapS b st kv vv m a) (by simp)
  have hlt := (Array.getElem?_eq_some_iff.1 hb).1
  have hj : j < es.toList.length := (List.getElem?_eq_some_iff.1 h2).1
  have hidx : es.findIdx? (fun e => ((e.born : Nat) : Int) == ((st : Nat) : Int)) = some j := by
    rw [WideElems.findIdx_arr, ← h3]
    exact WideElems.findIdx_born hbn h2
  have step : ∀ o' : Obj, Step (fun i => i = b) w { w with heap := w.heap.setIfInBounds b o' } := fun o' => ⟨rfl, rfl, rfl, by simp, fun i _ hi => by simp [Array.getElem?_setIfInBounds, Ne.symm hi]⟩
  have same : ∀ o' : Obj, ({ w with heap := w.heap.setIfInBounds b o' } : World).heap[b]? = some o' := fun o' => by simp [Array.getElem?_setIfInBounds, hlt]
  have hrun : (Instr.entryStore t (.map (some b)) (goInt st) (vv v)).run P w = .ok () { w with heap := w.heap.setIfInBounds b (.map (es.modify j fun e => { e with val := vv v }) clock) } := by
    simp [Instr.entryStore, MapKept.run_getObj_map hb, asInt, asIntOf, goInt, hidx, MapKept.run_setObj_map _ hb, Result.andThen]
  refine ⟨by simp [ho], by simp [Oper.about, ho], undef, { w with heap := w.heap.setIfInBounds b (.map (es.modify j fun e => { e with val := vv v }) clock) }, .inr ⟨?_, rfl⟩, rfl, ?_⟩
  · unfold execOp
    have hy2 : ρ y = goInt st := hy
    simp [ho, hx, hy2, hu, hrun, Result.andThen]
  · refine h1.set (e := eMapS b st kv vv m a) (k := ⟨.refl _⟩) (eMap b kv vv (mset m a v)) (step _) ⟨_, _, same _, ?_, mset_nodup hn a v, ?_, ?_⟩ (fun i hi => .inl hi) (fun _ hi => hi)
    · rw [modify_toList, modify_set h2, mset_at hn h5 v, List.map_set, List.map_set, he]
      simp [h4]
    · intro y hy
      rw [modify_toList, modify_set h2] at hy
      rcases List.mem_or_eq_of_mem_set hy with hy | rfl
      · exact hc y hy
      · exact hc e0 (List.mem_of_getElem? h2)
    · rw [modify_toList, modify_set h2, List.map_set]
      have e1 : (es.toList.map (·.born)).set j e0.born = es.toList.map (·.born) := WideElems.set_self _ _ _ (by rw [List.getElem?_map, h2]; rfl)
      rw [e1]
      exact hbn
end
end Go.Proofs.Ytionnlckjjojnaa
namespace Go.Proofs.Ytionnlckjjojnaa
open Go.RowKit
set_option linter.unusedVariables false

/-- One such struct: where its row lies, what it holds. -/
structure ObAt where
  A : Option Addr
  n : Nat
  c : Nat
  id : Id
  links : List Id
  x : Int
def LinksIs (w : World) (ps : List ObAt) : Prop := ∀ p ∈ ps, Sl w p.A p.n p.c 32 (p.links.flatMap idc)
theorem LinksIs.n_eq {w : World} {ps : List ObAt} (h : LinksIs w ps) {p : ObAt} (hp : p ∈ ps) : p.n = p.links.length := (h p hp).n_flat idc_length (by omega)
/-- Rows that are read. -/
def eObs (f : ObAt → List Value) (A : Option Addr) (n c : Nat) (ps : List ObAt) : Ent where
  own _ := False
  rd k := Ft A n k ∨ ∃ p ∈ ps, Ft p.A p.n k
  holds w := Sl w A n c 34 (ps.flatMap f) ∧ LinksIs w ps
  isC := true
  lt h k hk := by
    rcases hk with hk | hk | ⟨p, hp, hk⟩
    · exact hk.elim
    · exact h.1.ft_lt (by omega) hk
    · exact (h.2 p hp).ft_lt (by omega) hk
  keep h hs hd := ⟨h.1.step hs fun k hk => hd k (.inr (.inl hk)), fun p hp => (h.2 p hp).step hs fun k hk => hd k (.inr (.inr ⟨p, hp, hk⟩))⟩
  cel e w h k hk o ho := by
    rcases hk with hk | hk | ⟨p, hp, hk⟩
    · exact hk.elim
    · exact (eSl A n c 34 (ps.flatMap f)).cel rfl (w := w) ⟨by omega, h.1⟩ k (.inr hk) o ho
    · exact (eSl p.A p.n p.c 32 (p.links.flatMap idc)).cel rfl (w := w) ⟨by omega, h.2 p hp⟩ k (.inr hk) o ho
instance Calm.obs (f : ObAt → List Value) (A : Option Addr) (n c : Nat) (ps : List ObAt) (L : List Ent) [k : Calm L] : Calm (eObs f A n c ps :: L) := Calm.cons' rfl k
instance (priority := high) HasSl.obs (f : ObAt → List Value) (A : Option Addr) (n c : Nat) (ps : List ObAt) (L : List Ent) : HasSl (eObs f A n c ps :: L) A n c 34 (ps.flatMap f) := ⟨fun w h => (h (eObs f A n c ps) List.mem_cons_self).1⟩
/-- Rows that were got. -/
def eLnk (ps : List ObAt) : Ent where
  own k := ∃ p ∈ ps, Ft p.A p.n k
  rd _ := False
  holds w := LinksIs w ps
  isC := true
  lt h k hk := by
    rcases hk with ⟨p, hp, hk⟩ | hk
    · exact (h p hp).ft_lt (by omega) hk
    · exact hk.elim
  keep h hs hd := fun p hp => (h p hp).step hs fun k hk => hd k (.inl ⟨p, hp, hk⟩)
  cel e w h k hk o ho := by
    rcases hk with ⟨p, hp, hk⟩ | hk
    · exact (eSl p.A p.n p.c 32 (p.links.flatMap idc)).cel rfl (w := w) ⟨by omega, h p hp⟩ k (.inr hk) o ho
    · exact hk.elim
instance Calm.lnk (ps : List ObAt) (L : List Ent) [k : Calm L] : Calm (eLnk ps :: L) := Calm.cons' rfl k
instance NoRd.lnk (ps : List ObAt) (L : List Ent) [h : NoRd L] : NoRd (eLnk ps :: L) := ⟨fun x hx k hk => by
  rcases List.mem_cons.1 hx with rfl | hx
  · exact hk
  · exact h.no x hx k hk⟩
/-- Rows that can be read. -/
class HasObs (f : ObAt → List Value) (L : List Ent) (A : Option Addr) (n c : Nat) (ps : outParam (List ObAt)) : Prop where
  rows : ∀ w, (∀ x ∈ L, x.holds w) → Sl w A n c 34 (ps.flatMap f) ∧ LinksIs w ps
instance (priority := high) HasObs.hit (f : ObAt → List Value) (A : Option Addr) (n c : Nat) (ps : List ObAt) (L : List Ent) : HasObs f (eObs f A n c ps :: L) A n c ps := ⟨fun w h => h (eObs f A n c ps) List.mem_cons_self⟩
instance HasObs.miss (f : ObAt → List Value) (x : Ent) (A : Option Addr) (n c : Nat) (ps : List ObAt) (L : List Ent) [h : HasObs f L A n c ps] : HasObs f (x :: L) A n c ps := ⟨fun w hw => h.rows w (fun y hy => hw y (List.mem_cons_of_mem _ hy))⟩
section
variable {f : ObAt → List Value} {S : Nat → Prop} {w0 w : World} {L F : List Ent}
theorem St.obsAt (f : ObAt → List Value) (h : St S w0 w L) (A : Option Addr) (n c : Nat) {ps : List ObAt} [k : HasObs f L A n c ps] : Sl w A n c 34 (ps.flatMap f) ∧ LinksIs w ps := k.rows w h.holds
theorem HasObs.one {f : ObAt → List Value} {L : List Ent} {A : Option Addr} {n c : Nat} {ps : List ObAt} (k : HasObs f L A n c ps) {p : ObAt} (hp : p ∈ ps) : HasSl L p.A p.n p.c 32 (p.links.flatMap idc) := ⟨fun w hw => (k.rows w hw).2 p hp⟩
theorem St.oneLinks (f : ObAt → List Value) (h : St S w0 w L) (A : Option Addr) (n c : Nat) {ps : List ObAt} [k : Slot L (eObs f A n c ps) F] {p : ObAt} (hp : p ∈ ps) : St S w0 w (eSl p.A p.n p.c 32 (p.links.flatMap idc) :: L) :=
  h.addSub (e := eObs f A n c ps) (eSl p.A p.n p.c 32 (p.links.flatMap idc)) ⟨by omega, (h.get (e := eObs f A n c ps)).2 p hp⟩ (fun _ h => h) (fun i hi => .inr ⟨p, hp, hi⟩) (fun _ h => h)
theorem St.obs0 {A : Option Addr} {n c : Nat} {ps : List ObAt} (hl : Sl w A n c 34 (ps.flatMap f)) (hp : LinksIs w ps) : St (fun _ => False) w w [eObs f A n c ps] :=
  (St.nil w).addRd (eObs f A n c ps) ⟨hl, hp⟩ (fun _ h => h) (fun k hk => ⟨(eObs f A n c ps).lt (w := w) ⟨hl, hp⟩ k (.inr hk), id⟩)
/-- One more row that was got. -/
theorem St.lnkAdd {e : TypeId} {A : Option Addr} {n c : Nat} {ps : List ObAt} {l : List Id} (h : St S w0 w (eOwn e 32 A n c (l.flatMap idc) :: eLnk ps :: F)) (i : Id) (x : Int) : St S w0 w (eLnk (ps ++ [⟨A, n, c, i, l, x⟩]) :: F) := by
  have hp := List.pairwise_cons.1 h.apart
  have hp2 := List.pairwise_cons.1 hp.2
  have hr : Tl w e 32 A n c (l.flatMap idc) := h.holds _ List.mem_cons_self
  have hk : LinksIs w ps := h.holds (eLnk ps) (by simp)
  have own : ∀ k, (eLnk (ps ++ [⟨A, n, c, i, l, x⟩])).own k → (eOwn e 32 A n c (l.flatMap idc)).own k ∨ (eLnk ps).own k := by
    rintro k ⟨p, hp, hk⟩
    rcases List.mem_append.1 hp with hp | hp
    · exact .inr ⟨p, hp, hk⟩
    · obtain rfl := List.mem_singleton.1 hp
      exact .inl hk.2
  refine ⟨h.step, fun y hy => ?_, fun y hy k hk2 => ?_, List.pairwise_cons.2 ⟨fun y hy k => ⟨fun ho hyo => ?_, fun hr => hr.elim⟩, hp2.2⟩⟩
  · rcases List.mem_cons.1 hy with rfl | hy
    · intro p hpm
      rcases List.mem_append.1 hpm with hpm | hpm
      · exact hk p hpm
      · obtain rfl := List.mem_singleton.1 hpm
        exact hr.sl
    · exact h.holds y (by simp [hy])
  · rcases List.mem_cons.1 hy with rfl | hy
    · rcases own k hk2 with h2 | h2
      · exact h.foot _ List.mem_cons_self k h2
      · exact h.foot (eLnk ps) (by simp) k h2
    · exact h.foot y (by simp [hy]) k hk2
  · rcases own k ho with h2 | h2
    · exact (hp.1 y (by simp [hy]) k).1 h2 hyo
    · exact (hp2.1 y hy k).1 h2 hyo
theorem St.lnk0 (h : St S w0 w L) : St S w0 w (eLnk [] :: L) := h.add (Step.refl _ _) (eLnk []) (fun p hp => by cases hp) (fun k hk => by obtain ⟨p, hp, _⟩ := hk; cases hp) (fun _ hk => hk)
end
end Go.Proofs.Ytionnlckjjojnaa
namespace Go.Proofs.Ytionnlckjjojnaa
open Go.RowKit
/-- The operation whose result goes to slot d. -/
theorem wl_at (d : Nat) {P : Program} {ops : Array Oper} {rest : List Oper} {o : Oper} {a : Act} {w : World} {Q : Exit → Act → World → Prop} (hd : o.dst = some d) (h : wpList P ops Q (o :: rest) a w) : wpList P ops Q (o :: rest) a w := h
/-- The same within a round, and for operations that leave no result. -/
theorem wl_none {P : Program} {ops : Array Oper} {rest : List Oper} {o : Oper} {a : Act} {w : World} {Q : Exit → Act → World → Prop} (hd : o.dst = none) (h : wpList P ops Q (o :: rest) a w) : wpList P ops Q (o :: rest) a w := h
end Go.Proofs.Ytionnlckjjojnaa
namespace Go.Proofs.Ytionnlckjjojnaa
open Go.RowKit
set_option linter.unusedVariables false
section
variable {α : Type} {enc : α → List Value} {sz : Nat}
theorem flat_take (hk : ∀ x, (enc x).length = sz) (d : List α) (i : Nat) (hi : i ≤ d.length) : (d.flatMap enc).take (i * sz) = (d.take i).flatMap enc := by
  induction d generalizing i with
  | nil => simp
  | cons x d ih =>
    cases i with
    | zero => simp
    | succ i =>
      rw [List.flatMap_cons, List.take_succ_cons, List.flatMap_cons, List.take_append, hk, Nat.succ_mul, List.take_of_length_le (by rw [hk]; omega), Nat.add_sub_cancel, ih i (by simpa using hi)]
theorem flat_drop (hk : ∀ x, (enc x).length = sz) (d : List α) (i : Nat) (hi : i ≤ d.length) : (d.flatMap enc).drop (i * sz) = (d.drop i).flatMap enc := by
  induction d generalizing i with
  | nil => simp
  | cons x d ih =>
    cases i with
    | zero => simp
    | succ i =>
      rw [List.flatMap_cons, List.drop_succ_cons, List.drop_append, hk, Nat.succ_mul, List.drop_eq_nil_of_le (by rw [hk]; omega), Nat.add_sub_cancel, ih i (by simpa using hi), List.nil_append]
theorem flat_set (hk : ∀ x, (enc x).length = sz) (d : List α) (i : Nat) (hi : i < d.length) (x : α) : (d.flatMap enc).take (i * sz) ++ enc x ++ (d.flatMap enc).drop (i * sz + sz) = (d.set i x).flatMap enc := by
  have e : i * sz + sz = (i + 1) * sz := by rw [Nat.succ_mul]
  rw [e, flat_take hk d i (by omega), flat_drop hk d (i + 1) (by omega), List.set_eq_take_append_cons_drop, if_pos hi, List.flatMap_append, List.flatMap_cons, List.append_assoc]
variable {P : Program} {S : Nat → Prop} {w0 w : World} {L F : List Ent} {ρ : Operand → Value} {o : Oper}
theorem ex_get_row (h : St S w0 w L) (hk : ∀ x, (enc x).length = sz) (hs : 0 < sz) (ty : TypeId) (x : Operand) (ho : o.op = .load ty x) (g off i : Nat) (hx : ρ x = .pointer (some ⟨g, off + i * sz, none⟩)) {e : TypeId} {n c : Nat} (d : List α) (hi : i < d.length)
    [ka : Agg P ty] [ks : Siz P ty sz] [ko : SlotO L (some ⟨g, off, none⟩) e sz n c (d.flatMap enc) F] : Reads P ρ o w (.agg (enc d[i]).toArray) := by
  obtain ⟨b, o2, e2, hc⟩ := (h.row (some ⟨g, off, none⟩) (k := ko)).sl.elem hk hi hs
  injection e2 with e2
  injection e2 with e2 e3
  subst e2 e3
  exact ex_load_at ty x ho g (off + i * sz) hx (enc d[i]) (hk _) hc
theorem ex_put_row (h : St S w0 w L) (hk : ∀ x, (enc x).length = sz) (hs : 0 < sz) (h1 : ∀ x, ∀ v ∈ enc x, v.oneCell' = true) (ty : TypeId) (x y : Operand) (ho : o.op = .store ty x y) (g off i : Nat) (hx : ρ x = .pointer (some ⟨g, off + i * sz, none⟩)) (u : α) (hy : ρ y = .agg (enc u).toArray) {e : TypeId} {n c : Nat} (d : List α) (hi : i < d.length)
    [ks : Siz P ty sz] [ko : SlotO L (some ⟨g, off, none⟩) e sz n c (d.flatMap enc) F] :
    Runs P ρ o w fun v w' => v = undef ∧ St S w0 w' (eOwn e sz (some ⟨g, off, none⟩) n c ((d.set i u).flatMap enc) :: F) := by
  have hown := h.row (some ⟨g, off, none⟩) (k := ko)
  have hln : d.length = n := (hown.sl.n_flat hk hs).symm
  rcases hown.2 with ⟨h0, _⟩ | ⟨g', off', cur, e1, hg, hnc, hcm, hle, htk⟩
  · cases h0
  · injection e1 with e1
    injection e1 with e1 e2
    subst e1 e2
    have hcl : cur.toList.length = cur.size := by simp
    have m1 : i * sz + sz ≤ n * sz := by
      have := Nat.mul_le_mul_right sz (show i + 1 ≤ n by omega)
      rwa [Nat.succ_mul] at this
    have m2 : n * sz ≤ c * sz := Nat.mul_le_mul_right sz hnc
    have hlen : (enc u).length = sz := hk u
    obtain ⟨w', hrun, hb', hs', _⟩ := op_store (P := P) w ty x y ho g (off + i * sz) hx (.agg (enc u).toArray) (enc u) hy rfl (by rw [ks.eq, hk]) (h1 u) e _ hg (by rw [hk]; omega)
    rw [hk] at hb'
    refine ⟨by simp [ho], by simp [Oper.about, ho], _, _, .inr ⟨hrun, rfl⟩, rfl, h.set (k := ⟨ko.perm⟩) (eOwn e sz (some ⟨g, off, none⟩) n c ((d.set i u).flatMap enc)) (hs'.mono fun k _ hk => ⟨_, rfl, hk.symm⟩) ⟨by rw [length_flatMap hk, List.length_set, hln], .inr ⟨g, off, _, rfl, hb', hnc, hcm, ?_, ?_⟩⟩ (fun k hk => .inl hk) (fun _ hk => hk)⟩
    · simp only [List.size_toArray, List.length_append, List.length_take, List.length_drop]
      omega
    · rw [← flat_set hk d i hi u, ← htk]
      have l1 : (cur.toList.take (off + i * sz)).length = off + i * sz := by rw [List.length_take]; omega
      have l2 : (List.take (i * sz) (cur.toList.drop off)).length = i * sz := by rw [List.length_take, List.length_drop]; omega
      rw [List.append_assoc, List.drop_append_of_le_length (by omega), List.drop_take, Nat.add_sub_cancel_left, List.take_append, l2, List.take_of_length_le (by omega), List.take_append, hlen, List.take_of_length_le (l := enc u) (by omega), List.take_take, Nat.min_eq_left (by omega), List.append_assoc, List.drop_take, List.drop_drop]
      congr 3
      · omega
      · rw [Nat.add_assoc]
end
end Go.Proofs.Ytionnlckjjojnaa
namespace Go.Proofs.Ytionnlckjjojnaa
open Go.RowKit Go.Sort
set_option linter.unusedVariables false

section
variable {α : Type} [Inhabited α] {enc : α → List Value} {k : Nat}
theorem flat_get (hk : ∀ x, (enc x).length = k) (k0 : 0 < k) : ∀ (l : List α) (t : Nat), t < l.length * k → (l.flatMap enc)[t]? = (enc (l.toArray[t / k]!))[t % k]?
  | [], t, h => by simp at h
  | x :: l, t, h => by
    rw [List.flatMap_cons, List.getElem?_append, hk]
    by_cases ht : t < k
    · rw [if_pos ht, Nat.div_eq_of_lt ht, Nat.mod_eq_of_lt ht]
      rfl
    · rw [if_neg ht, flat_get hk k0 l (t - k) (by rw [List.length_cons, Nat.add_mul, Nat.one_mul] at h; omega)]
      have h1 : t / k = (t - k) / k + 1 := by
        rw [← Nat.add_div_right _ k0]
        congr 1
        omega
      have h2 : t % k = (t - k) % k := by
        rw [← Nat.add_mod_right (t - k) k]
        congr 1
        omega
      rw [h2, h1]
      congr 2
      simp
theorem flatK_list (hk : ∀ x, (enc x).length = k) (k0 : 0 < k) (l : List α) (t : Nat) (h : t < l.length * k) : (l.flatMap enc)[t]? = some ((flatK enc k l.toArray)[t]!) := by
  rw [get_flatK _ _ _ _ (by simpa using h), flat_get hk k0 l t h]
  have : t % k < (enc l.toArray[t / k]!).length := by rw [hk]; exact Nat.mod_lt _ k0
  rw [List.getElem?_eq_getElem this, getElem!_pos (enc l.toArray[t / k]!) (t % k) this]
variable {w : World} {t : TypeId} {blk off n c : Nat} {l l' : List α}
theorem Tl.holdsK (h : Tl w t k (some ⟨blk, off, none⟩) n c (l.flatMap enc)) (hk : ∀ x, (enc x).length = k) (k0 : 0 < k) : HoldsK enc k w blk off l.toArray ∧ blk < w.heap.size := by
  obtain ⟨hl, h0 | ⟨g, o, cur, e, hg, hnc, hcm, hle, htk⟩⟩ := h
  · cases h0.1
  · injection e with e
    injection e with e1 e2
    subst e1 e2
    refine ⟨fun j hj => ⟨?_, hg.frozen _⟩, hg.lt⟩
    rw [size_flatK, List.size_toArray] at hj
    have h1 := flatK_list hk k0 l j hj
    rw [hg.cell, ← Array.getElem?_toList]
    have h2 : (cur.toList.drop off)[j]? = (l.flatMap enc)[j]? := by
      rw [← htk, List.getElem?_take, if_pos]
      have : (l.flatMap enc).length = l.length * k := length_flatMap hk l
      omega
    rw [List.getElem?_drop] at h2
    rw [h2, h1]
    rfl
theorem Tl.sorted (h : Tl w t k (some ⟨blk, off, none⟩) n c (l.flatMap enc)) (hk : ∀ x, (enc x).length = k) (k0 : 0 < k) (hl' : l'.length = l.length) (m : Nat) (os : Array Obj) :
    Tl (sortWorldK enc k w blk off m l'.toArray os) t k (some ⟨blk, off, none⟩) n c (l'.flatMap enc) ∧ Step (fun i => i = blk) w (sortWorldK enc k w blk off m l'.toArray os) := by
  obtain ⟨hl, h0 | ⟨g, o, cur, e, hg, hnc, hcm, hle, htk⟩⟩ := h
  · cases h0.1
  · injection e with e
    injection e with e1 e2
    subst e1 e2
    have hll : (l.flatMap enc).length = l.length * k := length_flatMap hk l
    have hnk : n * k ≤ c * k := Nat.mul_le_mul_right _ hnc
    have hcl : cur.toList.length = cur.size := by simp
    have hw : w.heap[blk]? = some (.cells cur t (0, 0)) := hg
    obtain ⟨F, hF⟩ : ∃ F, flatK enc k l'.toArray = F := ⟨_, rfl⟩
    have hFs : F.size = n * k := by rw [← hF, size_flatK, List.size_toArray, hl', ← hl, hll]
    have hheap : (sortWorldK enc k w blk off m l'.toArray os).heap = w.heap.modify blk (onCells (putCells id off F)) ++ os := by rw [← hF]; rfl
    have hsz : (w.heap.modify blk (onCells (putCells id off F))).size = w.heap.size := by simp
    have hblk : (sortWorldK enc k w blk off m l'.toArray os).heap[blk]? = some (.cells (putCells id off F cur) t (0, 0)) := by
      rw [hheap, Array.getElem?_append, if_pos (by rw [hsz]; exact hg.lt), Array.getElem?_modify, if_pos rfl, hw]
      rfl
    refine ⟨⟨by rw [length_flatMap hk, hl', ← hl, hll], .inr ⟨blk, off, putCells id off F cur, rfl, hblk, hnc, hcm, by simp [putCells]; omega, ?_⟩⟩, rfl, rfl, rfl, ?_, fun i hi hk2 => ?_⟩
    · apply List.ext_getElem?
      intro j
      rw [List.getElem?_take, List.getElem?_drop]
      by_cases hj : j < n * k
      · rw [if_pos hj, flatK_list hk k0 l' j (by rw [hl', ← hll, hl]; exact hj), Array.getElem?_toList]
        unfold putCells
        rw [Array.getElem?_mapIdx, Array.getElem?_eq_getElem (show off + j < cur.size by omega), Option.map_some, if_pos ⟨by omega, by rw [hFs]; omega⟩, Nat.add_sub_cancel_left, hF]
        rfl
      · rw [if_neg hj, List.getElem?_eq_none]
        rw [length_flatMap hk, hl', ← hll, hl]
        omega
    · rw [hheap, Array.size_append, hsz]
      omega
    · rw [hheap, Array.getElem?_append, if_pos (by rw [hsz]; exact hi), Array.getElem?_modify, if_neg (fun e => hk2 e.symm)]
/-- What the sort leaves. -/
theorem St.sorted {S : Nat → Prop} {w0 : World} {L F : List Ent} (h : St S w0 w L) [ko : SlotO L (some ⟨blk, off, none⟩) t k n c (l.flatMap enc) F] (hk : ∀ x, (enc x).length = k) (k0 : 0 < k) (hl' : l'.length = l.length) (m : Nat) (os : Array Obj) :
    St S w0 (sortWorldK enc k w blk off m l'.toArray os) (eOwn t k (some ⟨blk, off, none⟩) n c (l'.flatMap enc) :: F) := by
  obtain ⟨h1, h2⟩ := (h.row (some ⟨blk, off, none⟩) (k := ko)).sorted hk k0 hl' m os
  exact h.set (k := ⟨ko.perm⟩) (eOwn t k (some ⟨blk, off, none⟩) n c (l'.flatMap enc)) (h2.mono fun i _ hi => ⟨_, rfl, hi.symm⟩) h1 (fun i hi => .inl hi) (fun _ hk => hk)
end
end Go.Proofs.Ytionnlckjjojnaa
