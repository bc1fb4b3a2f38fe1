/- Directories as bytes; plain. -/
import Derived.Test.YtnokgejmlpmgfaaCB2
import Derived.Test.YtnokgejmlpmgfaaCOpenDir
namespace Go.Proofs.Ytnokgejmlpmgfaa
open Go.RowKit
set_option linter.unusedVariables false
set_option linter.unusedSimpArgs false

def encE (e : En) : List UInt8 := e.blind.1 ++ nM e.name.length ++ e.name ++ nM e.kind.toNat ++ e.id.1 ++ e.key.1 ++ nM e.realm.toNat ++ nM e.epoch.toNat
def dirB (l : List En) : List UInt8 := nM l.length ++ l.flatMap encE
def doutM (l : List En) : List UInt8 := if dirM l = true then dirB l else []
def doutC (l : List En) : Int := if dirM l = true then 0 else 110
theorem oneM_spec {e : En} (h : oneM e = true) : (e.kind = 1 ∨ e.kind = 2 ∨ e.kind = 4) ∧ e.name.length ≤ 64 := by
  simp only [oneM, Bool.and_eq_true, Bool.or_eq_true, beq_iff_eq] at h
  exact ⟨by rcases h.1 with (h1 | h1) | h1 <;> simp [h1], ((goodM_iff _).1 h.2).2.1⟩
theorem dirM_spec {l : List En} (h : dirM l = true) : l.length ≤ 500 ∧ ∀ e ∈ l, oneM e = true := by
  simp only [dirM, Bool.and_eq_true, decide_eq_true_eq] at h
  refine ⟨h.1, fun e he => ?_⟩
  obtain ⟨k, hk, rfl⟩ := List.getElem_of_mem he
  have h2 := List.all_eq_true.1 h.2 k (List.mem_range.2 hk)
  unfold okM at h2
  rw [List.getElem?_eq_getElem hk] at h2
  simp only [Bool.and_eq_true] at h2
  exact h2.1.1
/-- What the bytes of an entry need of it. -/
def EnB (e : En) : Prop := EnOk e ∧ 0 ≤ e.kind ∧ e.kind ≤ 4 ∧ e.name.length ≤ 64
theorem dirM_enB {l : List En} (h : dirM l = true) (ho : ∀ e ∈ l, EnOk e) : ∀ e ∈ l, EnB e := fun e he => by
  obtain ⟨h1, h2⟩ := oneM_spec ((dirM_spec h).2 e he)
  exact ⟨ho e he, by rcases h1 with h1 | h1 | h1 <;> omega, by rcases h1 with h1 | h1 | h1 <;> omega, h2⟩
theorem encE_len {e : En} (h : EnB e) : (encE e).length ≤ 200 := by
  obtain ⟨⟨o1, o2, o3, o4, o5, o6, o7⟩, h2, h3, h4⟩ := h
  have a1 := nM_ten (n := e.name.length) (by omega)
  have a2 := nM_ten (n := e.kind.toNat) (by omega)
  have a3 := nM_ten (n := e.realm.toNat) (by omega)
  have a4 := nM_ten (n := e.epoch.toNat) (by omega)
  have a5 := e.blind.2
  have a6 := e.id.2
  have a7 := e.key.2
  simp only [encE, List.length_append]
  omega
theorem encE_pos (e : En) : 0 < (encE e).length := by
  have a5 := e.blind.2
  simp only [encE, List.length_append]
  omega
theorem encsE_len : ∀ {l : List En}, (∀ e ∈ l, EnB e) → (l.flatMap encE).length ≤ l.length * 200
  | [], _ => by simp
  | e :: l, h => by
    have h1 := encsE_len (l := l) fun x hx => h x (List.mem_cons_of_mem _ hx)
    have h2 := encE_len (h e List.mem_cons_self)
    rw [List.flatMap_cons, List.length_append, List.length_cons]
    omega

def entT (s : RS) : En × RS :=
  (⟨(idT s).1, (textT 64 (idT s).2).1, ((numT 4 (textT 64 (idT s).2).2).1 : Nat), (idT (numT 4 (textT 64 (idT s).2).2).2).1, (idT (idT (numT 4 (textT 64 (idT s).2).2).2).2).1,
    ((numT 4294967295 (idT (idT (numT 4 (textT 64 (idT s).2).2).2).2).2).1 : Nat), ((numT 4294967295 (numT 4294967295 (idT (idT (numT 4 (textT 64 (idT s).2).2).2).2).2).2).1 : Nat)⟩,
   (numT 4294967295 (numT 4294967295 (idT (idT (numT 4 (textT 64 (idT s).2).2).2).2).2).2).2)
theorem entT_eq {s s1 s2 s3 s4 s5 s6 s7 : RS} {b i k : Id} {t : List UInt8} {q r u : Nat} (h1 : idT s = (b, s1)) (h2 : textT 64 s1 = (t, s2)) (h3 : numT 4 s2 = (q, s3)) (h4 : idT s3 = (i, s4)) (h5 : idT s4 = (k, s5)) (h6 : numT 4294967295 s5 = (r, s6)) (h7 : numT 4294967295 s6 = (u, s7)) :
    entT s = (⟨b, t, (q : Int), i, k, (r : Int), (u : Int)⟩, s7) := by
  simp only [entT, h1, h2, h3, h4, h5, h6, h7]
theorem entT_ok (s : RS) : EnB (entT s).1 := by
  have b2 := textT_le 64 (idT s).2
  have b3 := numT_le 4 (textT 64 (idT s).2).2
  have b6 := numT_le 4294967295 (idT (idT (numT 4 (textT 64 (idT s).2).2).2).2).2
  have b7 := numT_le 4294967295 (numT 4294967295 (idT (idT (numT 4 (textT 64 (idT s).2).2).2).2).2).2
  simp only [EnB, EnOk, entT, maxLen]
  refine ⟨⟨?_, ?_, ?_, ?_, ?_, ?_, ?_⟩, ?_, ?_, ?_⟩ <;> omega
theorem entT_spec {s : RS} {r : List UInt8} (h : (entT s).2 = some r) : s = some (encE (entT s).1 ++ r) := by
  have e7 := numT_spec (show (numT 4294967295 (numT 4294967295 (idT (idT (numT 4 (textT 64 (idT s).2).2).2).2).2).2).2 = some r from h)
  have e6 := numT_spec e7
  have e5 := idT_spec e6
  have e4 := idT_spec e5
  have e3 := numT_spec e4
  have e2 := (textT_spec e3).1
  have e1 := idT_spec e2
  refine e1.trans ?_
  simp only [encE, entT, List.append_assoc, Int.toNat_natCast]
theorem entT_none : (entT none).2 = none := by simp [entT, idT, textT, numT_none, rawT, numT]
theorem entT_nil : (entT (some [])).2 = none := by
  have h1 : idT (some []) = (idz, none) := idT_short (by simp)
  have h2 : (textT 64 none).2 = none := by simp [textT, numT_none, rawT]
  have h3 : (idT none).2 = none := rfl
  simp only [entT, h1, h2, h3, numT_none]
theorem entT_app {e : En} (h : EnB e) (r : List UInt8) : entT (some (encE e ++ r)) = (e, some r) := by
  obtain ⟨⟨o1, o2, o3, o4, o5, o6, o7⟩, h2, h3, h4⟩ := h
  obtain ⟨b, t, k, i, ky, re, ep⟩ := e
  simp only at o1 o2 o3 o4 o5 o6 o7 h2 h3 h4
  obtain ⟨q, rfl⟩ := Int.eq_ofNat_of_zero_le h2
  obtain ⟨u, rfl⟩ := Int.eq_ofNat_of_zero_le o3
  obtain ⟨v, rfl⟩ := Int.eq_ofNat_of_zero_le o5
  have e0 : encE ⟨b, t, (q : Int), i, ky, (u : Int), (v : Int)⟩ ++ r = b.1 ++ (nM t.length ++ (t ++ (nM q ++ (i.1 ++ (ky.1 ++ (nM u ++ (nM v ++ r))))))) := by
    simp [encE, List.append_assoc]
  rw [e0]
  exact entT_eq (idT_app _ _) (textT_app (by omega) _) (numT_nM (by omega) _) (idT_app _ _) (idT_app _ _) (numT_nM (by omega) _) (numT_nM (by omega) _)

def rowC : Nat → RS → List En × RS
  | 0, s => ([], s)
  | n + 1, s => if (s.getD []).length = 0 then ([], none) else ((entT s).1 :: (rowC n (entT s).2).1, (rowC n (entT s).2).2)
def rowR : Nat → RS → List En × RS
  | 0, s => ([], s)
  | n + 1, s => if s = none then ([], none) else ((entT s).1 :: (rowR n (entT s).2).1, (rowR n (entT s).2).2)
theorem rowR_none (n : Nat) : rowR n none = ([], none) := by cases n <;> simp [rowR]
theorem rowC_none (n : Nat) : rowC n none = ([], none) := by cases n <;> simp [rowC]
theorem row_same : ∀ (n : Nat) (s : RS), (rowR n s).2 = (rowC n s).2 ∧ ((rowC n s).2 ≠ none → (rowR n s).1 = (rowC n s).1)
  | 0, s => ⟨rfl, fun _ => rfl⟩
  | n + 1, s => by
    obtain ⟨h1, h2⟩ := row_same n (entT s).2
    match s, h1, h2 with
    | none, h1, h2 => rw [rowR_none, rowC_none]; exact ⟨rfl, fun _ => rfl⟩
    | some [], h1, h2 =>
      have e : rowR (n + 1) (some []) = ([(entT (some [])).1], none) := by rw [rowR, if_neg (by simp), entT_nil, rowR_none]
      rw [e, rowC, if_pos (by simp)]
      exact ⟨rfl, fun h => absurd rfl h⟩
    | some (a :: t), h1, h2 =>
      rw [rowR, if_neg (by simp), rowC, if_neg (by simp)]
      exact ⟨h1, fun h => by simp only; rw [h2 h]⟩
theorem rowC_enB : ∀ (n : Nat) (s : RS), ∀ e ∈ (rowC n s).1, EnB e
  | 0, s, e, he => by cases he
  | n + 1, s, e, he => by
    rw [rowC] at he
    split at he
    · cases he
    · rcases List.mem_cons.1 he with rfl | he
      · exact entT_ok s
      · exact rowC_enB n _ e he
theorem rowC_le : ∀ (n : Nat) (s : RS), (rowC n s).1.length ≤ n
  | 0, s => Nat.le_refl _
  | n + 1, s => by
    rw [rowC]
    split
    · simp
    · have := rowC_le n (entT s).2
      rw [List.length_cons]
      omega
theorem rowC_spec : ∀ (n : Nat) {s : RS} {r : List UInt8}, (rowC n s).2 = some r → s = some ((rowC n s).1.flatMap encE ++ r) ∧ (rowC n s).1.length = n
  | 0, s, r, h => ⟨h, rfl⟩
  | n + 1, s, r, h => by
    rw [rowC] at h ⊢
    split at h
    · cases h
    · rename_i hc
      rw [if_neg hc]
      obtain ⟨h1, h2⟩ := rowC_spec n h
      refine ⟨?_, by rw [List.length_cons, h2]⟩
      refine (entT_spec h1).trans ?_
      simp only [List.flatMap_cons, List.append_assoc]
theorem rowC_app (r : List UInt8) : ∀ {l : List En}, (∀ e ∈ l, EnB e) → rowC l.length (some (l.flatMap encE ++ r)) = (l, some r)
  | [], _ => rfl
  | e :: l, h => by
    have h1 := rowC_app r (l := l) fun x hx => h x (List.mem_cons_of_mem _ hx)
    have hp := encE_pos e
    rw [List.length_cons, rowC, if_neg (by simp only [Option.getD_some, List.flatMap_cons, List.length_append]; omega), List.flatMap_cons, List.append_assoc, entT_app (h e List.mem_cons_self), h1]
/-- What has been read, with k still to come. -/
def Goes (rw_ : Nat → RS → List En × RS) (n : Nat) (s0 : RS) (acc : List En) (k : Nat) (s : RS) : Prop := rw_ n s0 = (acc ++ (rw_ k s).1, (rw_ k s).2)
theorem goesC_step {n k : Nat} {s0 s : RS} {acc : List En} (h : Goes rowC n s0 acc (k + 1) s) (hs : (s.getD []).length ≠ 0) {e : En} {s' : RS} (he : entT s = (e, s')) : Goes rowC n s0 (acc ++ [e]) k s' := by
  unfold Goes at h ⊢
  rw [h, rowC, if_neg hs, he, List.append_assoc]
  rfl
theorem goesC_stop {n k : Nat} {s0 s : RS} {acc : List En} (h : Goes rowC n s0 acc (k + 1) s) (hs : (s.getD []).length = 0) : rowC n s0 = (acc, none) := by
  unfold Goes at h
  rw [h, rowC, if_pos hs, List.append_nil]
theorem goesR_step {n k : Nat} {s0 s : RS} {acc : List En} (h : Goes rowR n s0 acc (k + 1) s) (hs : s ≠ none) {e : En} {s' : RS} (he : entT s = (e, s')) : Goes rowR n s0 (acc ++ [e]) k s' := by
  unfold Goes at h ⊢
  rw [h, rowR, if_neg hs, he, List.append_assoc]
  rfl
theorem goesR_stop {n k : Nat} {s0 : RS} {acc : List En} (h : Goes rowR n s0 acc k none) : rowR n s0 = (acc, none) := by
  unfold Goes at h
  rw [h, rowR_none, List.append_nil]
theorem goes_zero {f : Nat → RS → List En × RS} (hf : ∀ s, f 0 s = ([], s)) {n : Nat} {s0 s : RS} {acc : List En} (h : Goes f n s0 acc 0 s) : f n s0 = (acc, s) := by
  unfold Goes at h
  rw [h, hf, List.append_nil]
theorem goes_start (f : Nat → RS → List En × RS) (n : Nat) (s : RS) : Goes f n s [] n s := by
  unfold Goes
  simp

def dirT (b : List UInt8) : List En × RS := rowC (numT 500 (some b)).1 (numT 500 (some b)).2
def dirOf (b : List UInt8) : Option (List En) := if (dirT b).2 = some [] ∧ dirM (dirT b).1 = true then some (dirT b).1 else none
theorem dirOf_put {b : List UInt8} {l : List En} (h : dirOf b = some l) : b = dirB l ∧ dirM l = true := by
  unfold dirOf at h
  split at h
  · rename_i hc
    obtain ⟨h1, h2⟩ := hc
    cases h
    refine ⟨?_, h2⟩
    obtain ⟨h3, h4⟩ := rowC_spec _ (show (rowC (numT 500 (some b)).1 (numT 500 (some b)).2).2 = some [] from h1)
    have h5 := numT_spec h3
    refine (Option.some.inj h5).trans ?_
    rw [dirB, List.append_nil]
    show _ = nM (rowC _ _).1.length ++ _
    rw [h4]
    rfl
  · cases h
theorem dirOf_enB {b : List UInt8} : ∀ e ∈ ((dirOf b).getD []), EnB e := by
  unfold dirOf
  split
  · exact rowC_enB _ _
  · intro e he; cases he
theorem dirOf_len {b : List UInt8} : ((dirOf b).getD []).length ≤ 500 := by
  unfold dirOf
  split
  · exact Nat.le_trans (rowC_le _ _) (numT_le 500 _)
  · simp
theorem dirOf_of {l : List En} (h : dirM l = true) (ho : ∀ e ∈ l, EnOk e) : dirOf (dirB l) = some l := by
  have hb := dirM_enB h ho
  have h1 : numT 500 (some (dirB l)) = (l.length, some (l.flatMap encE)) := by rw [dirB]; exact numT_nM (dirM_spec h).1 _
  have h2 : dirT (dirB l) = (l, some []) := by
    have := rowC_app [] hb
    rw [List.append_nil] at this
    rw [dirT, h1, this]
  rw [dirOf, h2, if_pos ⟨rfl, h⟩]
end Go.Proofs.Ytnokgejmlpmgfaa
