/- What stands behind so many bytes. -/
import Derived.Test.YtcmgjoamfjijhaaCTable
namespace Go.Proofs.Ytcmgjoamfjijhaa
open Go.RowKit

theorem byte_parts2 : (Try.prog.info? 5).map (fun i => (i.zero, i.size, i.bytes)) = some (some (.int .u8 0), 1, 1) := by kernel_rfl
/-- append(s, make([]byte, m)...), s being full. -/
theorem run_append_zeros {P : Program} {w : World} (t u ty e : TypeId) (i : TypeInfo) (ht : P.underlying t = some (.slice e)) (hu : P.underlying u = some (.int .i64)) (hi : P.info? e = some i) (hz : i.zero = some (.int .u8 0)) (hsize : i.size = 1) (hby : i.bytes = 1)
    (b n : Nat) (xs : List Value) (hown : Own w e 1 (some ⟨b, 0, none⟩) n n xs) (m : Nat) (hm : n + m ≤ 1000000) :
    ∃ A' c' w', (Builtin.append_ #[t, u] ty #[.slice (some ⟨b, 0, none⟩) n n, .int .i64 (m : Int)]).run P w = .ok (.slice A' (n + m) c') w' ∧ Own w' e 1 A' (n + m) c' (xs ++ u8s (zeros m)) ∧ Step (fun _ => False) w w' ∧
      (∀ k, At A' k → k = b ∨ w.heap.size ≤ k) := by
  have hw : IntKind.i64.wrap (m : Int) = (m : Int) := wrap_small _ (by omega) (by omega)
  have h1 : ¬ ((m : Int) < 0) := by omega
  have h2 : ¬ (281474976710656 < (m : Int)) := by omega
  by_cases hm0 : m = 0
  · subst hm0
    refine ⟨some ⟨b, 0, none⟩, n, w, ?_, by simpa [zeros, u8s] using hown, Step.refl _ _, fun k ⟨a, h, hk⟩ => .inl (by cases h; exact hk.symm)⟩
    simp [Builtin.append_, run_underlying ht, run_underlying hu, sizeOf, typeInfo, hi, hby, asInt, asIntOf, storeCells, show IntKind.i64.wrap 0 = 0 by decide]
  · have hn : ¬ (n + m ≤ n) := by omega
    have hxl : xs.length = n := by simpa using hown.1
    have h63 : ¬ (9223372036854775807 < ((n : Int) + (m : Int))) := by omega
    have h48 : ¬ (281474976710656 < Builtin.nextslicecap (n + m) n) := by
      have := growslice_fits (need := n + m) (old := n) (bytes := 1) (by omega) (by omega)
      omega
    have hfo := run_firstCells_some (P := P) w.drew 1 n ⟨b, 0, none⟩ n n xs (by omega) (by simpa using hown.sl.adds rfl)
    refine ⟨some ⟨w.heap.size, 0, none⟩, grownCap w (n + m) n e, w.drew.alloc (.cells (xs.toArray ++ (u8s (zeros m)).toArray ++ Builtin.zeroCells (Value.int .u8 0).cells (grownCap w (n + m) n e - (n + m))) e), ?_, ?_, ((Step.refl _ _).drew).alloc _, fun k ⟨a, h, hk⟩ => .inr (by cases h; exact Nat.le_of_eq hk)⟩
    · have hzc : Builtin.zeroCells (Value.int .u8 0).cells m = (u8s (zeros m)).toArray := by
        have hl : ∀ k, Builtin.zeroCells (Value.int .u8 0).cells k = (List.replicate k (Value.int .u8 0)).toArray := fun k => by
          apply Array.ext
          · simp [Builtin.zeroCells, Value.cells]
          · intro j h1 h2
            simp [Builtin.zeroCells, Value.cells, Nat.mod_one]
        rw [hl]
        simp [zeros, u8s, u8v]
      simp [Builtin.append_, run_underlying ht, run_underlying hu, sizeOf, typeInfo, zeroValue, hi, hz, hsize, hby, asInt, asIntOf, hw, h1, h2, hn, h63, h48, hm0, Question.forced, hfo, newRow, grownCap, hzc]
      congr 2
      apply Array.ext'
      simp [List.append_assoc]
    · have hge := grownCap_ge w (n + m) n e
      have hcm := grownCap_le_maxLen w (n + m) n e (by simp [maxLen]; omega)
      have hml : (u8s (zeros m)).length = m := by rw [u8s_length, zeros_length]
      refine ⟨by simp [hxl, hml], .inr ⟨w.heap.size, _, _, rfl, Nat.zero_le _, heap_alloc_new w.drew _, hge, hcm, ?_, ?_⟩⟩
      · have hz1 : (Value.int IntKind.u8 0).cells.size = 1 := rfl
        simp only [Array.size_append, List.size_toArray, size_zeroCells, hz1, hxl, hml]
        omega
      · simp only [Array.toList_append, List.append_assoc]
        rw [← List.append_assoc, show (n + m) * 1 = (xs ++ u8s (zeros m)).length by simp [hxl, hml]]
        exact List.take_left

theorem wl_append_zeros {P : Program} {w : World} {ops : Array Oper} {rest : List Oper} {o : Oper} {a : Act} {Q : Exit → Act → World → Prop} (hgd : Region.wanted o (yielded ops a.tmps) = true) (s x : Operand) (t u : TypeId)
    (ho : o.op = .call { callee := .builtin .append, args := #[s, x], argTypes := #[t, u] }) (e : TypeId) (i : TypeInfo) (ht : P.underlying t = some (.slice e)) (hu : P.underlying u = some (.int .i64)) (hi : P.info? e = some i) (hz : i.zero = some (.int .u8 0)) (hsize : i.size = 1) (hby : i.bytes = 1)
    (b n : Nat) (xs : List Value) (hs : a.eval s = .slice (some ⟨b, 0, none⟩) n n) (hown : Own w e 1 (some ⟨b, 0, none⟩) n n xs) (m : Nat) (hx : a.eval x = .int .i64 (m : Int)) (hm : n + m ≤ 1000000)
    (h : ∀ A' c' w', Own w' e 1 A' (n + m) c' (xs ++ u8s (zeros m)) → Step (fun _ => False) w w' → (∀ k, At A' k → k = b ∨ w.heap.size ≤ k) → wpList P ops Q rest (a.put o.dst (.slice A' (n + m) c')) w') : wpList P ops Q (o :: rest) a w := by
  refine wpList_want hgd fun K hK => ?_
  obtain ⟨A', c', w', hrun, h2, h3, h4⟩ := run_append_zeros (P := P) (w := w) t u o.type e i ht hu hi hz hsize hby b n xs hown m hm
  unfold Oper.wp execOp
  simp only [ho, resolve, invoke, builtin, Sem.run_bind, Sem.run_pure, Result.andThen_ok, List.map_toArray, List.map_cons, List.map_nil, hs, hx, hrun]
  exact hK _ _ (h A' c' w' h2 h3 h4)

/-- The zeros, the length's bytes. -/
def zerosN (n : Nat) : Nat := (119 - n % 64) % 64
def lenB (n : Nat) : List UInt8 := (List.range 8).map fun i => UInt8.ofNat (n * 8 / 2 ^ (56 - 8 * i))
theorem lenB_take {n i : Nat} (hi : i < 8) : (lenB n).take (i + 1) = (lenB n).take i ++ [UInt8.ofNat (n * 8 / 2 ^ (56 - 8 * i))] := by
  rw [List.take_succ_eq_append_getElem (by simpa [lenB] using hi)]
  simp [lenB]
def tailM (n : Nat) : List UInt8 := 128 :: zeros (zerosN n) ++ lenB n

set_option maxRecDepth 100000 in
theorem tail_code {w : World} {n : Nat} (hn : n ≤ 1000000000) : Calls Try.prog 94 #[.int .i64 (n : Int)] w fun e w' => ∃ A k c, e = .returned (.slice A k c) ∧ Own w' 5 1 A k c (u8s (tailM n)) ∧ (∀ j, At A j → w.heap.size ≤ j) ∧ Step (fun _ => False) w w' := by
  have e1 : (119 - (n : Int) % 64) % 64 = ((zerosN n : Nat) : Int) := by simp only [zerosN]; omega
  have e2 : (119 - (n : Int)) % 64 = ((zerosN n : Nat) : Int) := by simp only [zerosN]; omega
  have hz : zerosN n < 64 := Nat.mod_lt _ (by omega)
  have w1 : IntKind.u64.wrap (n : Int) = n := by rw [IntKind.wrap_u64]; omega
  have w2 : IntKind.u64.wrap ((n : Int) * 8) = n * 8 := by rw [IntKind.wrap_u64]; omega
  obtain ⟨i0, hi0, hz0, hz1, hz2⟩ := info_parts byte_parts2
  generalize hzn : zerosN n = m at *
  have Hm := Lib.hid hzn
  clear hzn
  go_enter Try.func94, Try.ntmps94
  go_wp2_with (first
    | (refine wl_buildSlice rfl 27 5 1 _ rfl #[.int .u8 128] Try.underlying27 (by kernel_rfl) ?_; intro w2 hb2 hS2; have ho2 : Own w2 5 1 (some ⟨w.heap.size, 0, none⟩) 1 1 [.int .u8 128] := ⟨rfl, .inr ⟨_, 1, _, rfl, Nat.zero_le _, hb2, Nat.le_refl _, by decide, rfl, rfl⟩⟩)
    | (at_builtin; refine wl_append_zeros rfl _ _ 27 3 rfl 5 i0 Try.underlying27 Try.underlying3 hi0 hz0 hz1 hz2 w.heap.size 1 [.int .u8 128] rfl ho2 m rfl (by omega) ?_; intro A3 c3 w3 hown3 hS3 hat3))
  have hsz2 := hS2.size
  go_loopw [4, 6] (fun v s wr => ∃ (i : Nat) (A : Option Addr) (k c : Nat), v = .slice A k c ∧ s = .int .i64 (56 - 8 * (i : Int)) ∧ i ≤ 8 ∧ k = 1 + m + i ∧ Own wr 5 1 A k c (u8s (128 :: zeros m ++ (lenB n).take i)) ∧ (∀ j, At A j → w.heap.size ≤ j) ∧ Step (fun _ => False) w wr) (fun _ s _ => (intOf s + 8).toNat)
  case atStart => exact ⟨0, A3, 1 + m, c3, rfl, rfl, by omega, by omega, by simpa [u8s, u8v] using hown3, fun j hj => by rcases hat3 j hj with h | h <;> omega, hS2.tr hS3⟩
  case round =>
    obtain ⟨i, A, k, c, rfl, rfl, hi, hk, hown, hA, hS⟩ := hrel
    have Hk := Lib.hid hk
    have hkb : k ≤ 1000 := by omega
    clear hk
    by_cases hlt : i < 8
    · have f0 : (0 : Int) ≤ 56 - 8 * (i : Int) := by omega
      have f1 : (56 - 8 * (i : Int)).toNat = 56 - 8 * i := by omega
      have f2 : min (56 - 8 * i) 64 = 56 - 8 * i := by omega
      have f3 : 56 - 8 * (i : Int) ≤ 64 := by omega
      have hwr : IntKind.i64.wrap (56 - 8 * (i : Int) - 8) = 56 - 8 * (i : Int) - 8 := by
        have h : ∀ j : Fin 8, IntKind.i64.wrap (56 - 8 * (j.1 : Int) - 8) = 56 - 8 * (j.1 : Int) - 8 := by decide +kernel
        exact h ⟨i, hlt⟩
      go_wp2_with (at_builtin; refine wl_append _ rfl _ _ 27 rfl 5 i0 _ 1 1 Try.underlying27 hi0 hz0 hz1 hz2 rfl (by decide) A k c _ rfl (hown.alloc _) _ 1 1 [.int .u8 ((n : Int) * 8 / 2 ^ (56 - 8 * i) % 256)] rfl (sl_one _ _ _) (by simp [Value.oneCell']) (by simp [maxLen]; omega) (by omega) ?_; intro A6 c6 w6 hown6 hS6 hat6)
      refine ⟨⟨i + 1, A6, k + 1, c6, rfl, congrArg (Value.int .i64) (by omega), by omega, by have := Hk.out; omega, ?_, fun j hj => ?_, (hS.alloc _).trans hS6 (fun j hj h => by have := hA j h; omega)⟩, ?_⟩
      · have hb : [Value.int .u8 ((n : Int) * 8 / 2 ^ (56 - 8 * i) % 256)] = u8s [UInt8.ofNat (n * 8 / 2 ^ (56 - 8 * i))] := by
          simp only [u8s, u8v, List.map_cons, List.map_nil, UInt8.toNat_ofNat']
          rw [Int.natCast_emod, Int.natCast_ediv, Int.natCast_mul, Int.natCast_pow]
          rfl
        rw [hb, u8s_append, List.append_assoc] at hown6
        rw [lenB_take hlt]
        exact hown6
      · have := hS.size
        rcases hat6 j hj with h | h
        · exact hA j h
        · simp at h; omega
      · simp only [intOf]; omega
    · have : i = 8 := by omega
      subst this
      go_wp2
      go_ret
      refine ⟨A, k, c, rfl, ?_, hA, hS⟩
      rw [List.take_of_length_le (by simp [lenB])] at hown
      rw [tailM, Hm.out]
      exact hown
end Go.Proofs.Ytcmgjoamfjijhaa
