/- A suite as it lies: its maps' keys; its parts. -/
import Derived.Test.YtcmgjoamfjijhaaCB2
import Derived.Test.YtcmgjoamfjijhaaCTy
namespace Go.Proofs.Ytcmgjoamfjijhaa
open Go.RowKit Go.Maps
set_option linter.unusedVariables false
set_option linter.unusedSimpArgs false

theorem laidOutSu : laidOutB Try.prog = true := by kernel_rfl
instance (a b : Nat) (x0 x1 x2 x3 x4 x5 x6 x7 : Nat × Nat) (l : List (Nat × Nat)) : PlaceAt (x0 :: x1 :: x2 :: x3 :: x4 :: x5 :: x6 :: x7 :: (a, b) :: l) 8 a b := ⟨rfl⟩
/-- A question: its kind, key, label, text. -/
abbrev Ask := { n : Nat // n < 3 } × Id × Nm × Nm
/-- What was answered: the key, the label, the answer. -/
abbrev Giv := Id × Nm × Nm
def askc (q : Ask) : List Value := c_suite_ask (.int .i64 (q.1.1 : Int)) (u8s q.2.1.1) (.string (str q.2.2.1.1)) (.string (str q.2.2.2.1))
def askv (q : Ask) : Value := .agg (askc q).toArray
def givc (q : Giv) : List Value := c_suite_given (u8s q.1.1) (.string (str q.2.1.1)) (.string (str q.2.2.1))
def givv (q : Giv) : Value := .agg (givc q).toArray
theorem askc_eq (q : Ask) : askc q = [.int .i64 (q.1.1 : Int)] ++ (u8s q.2.1.1 ++ [.string (str q.2.2.1.1), .string (str q.2.2.2.1)]) := rfl
theorem givc_eq (q : Giv) : givc q = u8s q.1.1 ++ [.string (str q.2.1.1), .string (str q.2.2.1)] := rfl
theorem u8s_id (x : Id) : (u8s x.1).length = 32 := by rw [u8s_length, x.2]
theorem cell_part {xs : List Value} {i : Nat} {v : Value} (h : Cell xs i v) : (xs.drop i).take 1 = [v] := by
  obtain ⟨hi, hv⟩ := List.getElem?_eq_some_iff.1 h.eq
  rw [List.drop_eq_getElem_cons hi, hv]
  rfl
instance mk_ask : MapKey Try.prog 85 askv := by
  have hs : (Try.prog).types.size = ((Try.prog).types.size - 2) + 2 := by kernel_rfl
  refine mapkey_rec (m := 6) (Try.underlying85) (by kernel_rfl) laidOutSu (by omega) (of_decide_eq_true (by kernel_rfl)) (by kernel_rfl) (by kernel_rfl) hs askc (fun _ => rfl) (fun a => ?_) (fun a f hf => ?_) (fun a b h => ?_)
  · rw [show (Try.prog).cellsOf 85 = 35 from by kernel_rfl]
    simp [askc_eq, u8s_id]
  · simp only [List.mem_cons, List.not_mem_nil, or_false] at hf
    rcases hf with rfl | rfl | rfl | rfl
    · rw [show (Try.prog).cellsOf 3 = 1 from by kernel_rfl, askc, cell_part (c_suite_ask.p_kind _ _ _ _)]
      exact keyLits_i64 Try.underlying3 _ _ (by have := a.1.2; omega)
    · rw [show (Try.prog).cellsOf 29 = 32 from by kernel_rfl, askc, (c_suite_ask.p_key _ _ _ _).eq]
      exact keyLits_id Try.underlying29 Try.underlying5 (by kernel_rfl) (by kernel_rfl) _ _
    · rw [show (Try.prog).cellsOf 9 = 1 from by kernel_rfl, askc, cell_part (c_suite_ask.p_label _ _ _ _)]
      exact keyLits_nm Try.underlying9 _ _
    · rw [show (Try.prog).cellsOf 9 = 1 from by kernel_rfl, askc, cell_part (c_suite_ask.p_in _ _ _ _)]
      exact keyLits_nm Try.underlying9 _ _
  · obtain ⟨⟨a1, a1h⟩, a2, a3, a4⟩ := a
    obtain ⟨⟨b1, b1h⟩, b2, b3, b4⟩ := b
    simp only [askc_eq] at h
    have h1 := List.append_inj h (by simp)
    have h2 := List.append_inj h1.2 (by simp [u8s_id])
    simp only [List.cons.injEq, Value.int.injEq, and_true, true_and] at h1
    simp only [List.cons.injEq, Value.string.injEq, and_true] at h2
    obtain rfl : a1 = b1 := by omega
    obtain rfl : a2 = b2 := Subtype.ext (u8s_inj h2.1)
    obtain rfl : a3 = b3 := Subtype.ext (str_inj h2.2.1)
    obtain rfl : a4 = b4 := Subtype.ext (str_inj h2.2.2)
    rfl
instance mk_giv : MapKey Try.prog 88 givv := by
  have hs : (Try.prog).types.size = ((Try.prog).types.size - 2) + 2 := by kernel_rfl
  refine mapkey_rec (m := 6) (Try.underlying88) (by kernel_rfl) laidOutSu (by omega) (of_decide_eq_true (by kernel_rfl)) (by kernel_rfl) (by kernel_rfl) hs givc (fun _ => rfl) (fun a => ?_) (fun a f hf => ?_) (fun a b h => ?_)
  · rw [show (Try.prog).cellsOf 88 = 34 from by kernel_rfl]
    simp [givc_eq, u8s_id]
  · simp only [List.mem_cons, List.not_mem_nil, or_false] at hf
    rcases hf with rfl | rfl | rfl
    · rw [show (Try.prog).cellsOf 29 = 32 from by kernel_rfl, givc, (c_suite_given.p_key _ _ _).eq]
      exact keyLits_id Try.underlying29 Try.underlying5 (by kernel_rfl) (by kernel_rfl) _ _
    · rw [show (Try.prog).cellsOf 9 = 1 from by kernel_rfl, givc, cell_part (c_suite_given.p_label _ _ _)]
      exact keyLits_nm Try.underlying9 _ _
    · rw [show (Try.prog).cellsOf 9 = 1 from by kernel_rfl, givc, cell_part (c_suite_given.p_out _ _ _)]
      exact keyLits_nm Try.underlying9 _ _
  · obtain ⟨a2, a3, a4⟩ := a
    obtain ⟨b2, b3, b4⟩ := b
    simp only [givc_eq] at h
    have h2 := List.append_inj h (by simp [u8s_id])
    simp only [List.cons.injEq, Value.string.injEq, and_true] at h2
    obtain rfl : a2 = b2 := Subtype.ext (u8s_inj h2.1)
    obtain rfl : a3 = b3 := Subtype.ext (str_inj h2.2.1)
    obtain rfl : a4 = b4 := Subtype.ext (str_inj h2.2.2)
    rfl
instance mk_id : MapKey Try.prog 49 idv :=
  mapkey_id (m := 6) (s := (Try.prog).types.size - 1) Try.underlying49 Try.underlying5 laidOutSu (by omega) (of_decide_eq_true (by kernel_rfl)) (by kernel_rfl) (by kernel_rfl) (by kernel_rfl) (by kernel_rfl) (by kernel_rfl)
theorem mapTy_mk {P : Program} {t k e : TypeId} {z : Value} (h1 : P.underlying t = some (.map k e)) (h2 : (P.info? e).map (·.zero) = some (some z)) : MapTy P t k e z where
  und := h1
  zero w := by
    cases hq : P.info? e with
    | none => simp [hq] at h2
    | some i =>
      have : i.zero = some z := by simpa [hq] using h2
      simp [zeroValue, typeInfo, hq, this]
instance : MapTy Try.prog 69 85 9 (.string ByteArray.empty) := mapTy_mk Try.underlying69 (by kernel_rfl)
instance : MapTy Try.prog 70 88 9 (.string ByteArray.empty) := mapTy_mk Try.underlying70 (by kernel_rfl)
instance : MapTy Try.prog 71 49 9 (.string ByteArray.empty) := mapTy_mk Try.underlying71 (by kernel_rfl)
instance : MapTy Try.prog 72 49 4 (.bool false) := mapTy_mk Try.underlying72 (by kernel_rfl)
end Go.Proofs.Ytcmgjoamfjijhaa
