/- A text as bytes, at the walk. Program independent. -/
import Derived.Test.YtemhfociaikijaaAgg
import Derived.Laws.IdiomStrings
namespace Go.Proofs.Ytemhfociaikijaa
open Go.RowKit

theorem str_append (l m : List UInt8) : str l ++ str m = str (l ++ m) := by
  apply ByteArray.ext
  simp [str, ByteArray.data_append]
theorem sl_one (W : World) (t : TypeId) (v : Value) : Sl (W.alloc (.cells #[v] t)) (some ⟨W.heap.size, 0, none⟩) 1 1 1 [v] :=
  ⟨rfl, Nat.le_refl _, by simp [maxLen], fun _ => ⟨_, 0, rfl, by simp, by
    intro i u hu
    rw [Nat.zero_add]
    exact ((Blk.new W _ _).cell i).trans (by simpa using hu)⟩⟩
theorem own_one (W : World) (t : TypeId) (v : Value) : Own (W.alloc (.cells #[v] t)) t 1 (some ⟨W.heap.size, 0, none⟩) 1 1 [v] :=
  ⟨rfl, .inr ⟨_, 1, #[v], rfl, Nat.zero_le _, Blk.new W t #[v], Nat.le_refl _, by simp [maxLen], rfl, rfl⟩⟩
theorem Own.set_ {w : World} {e : TypeId} {b off n c i : Nat} {xs : List Value} (h : Own w e 1 (some ⟨b, off, none⟩) n c xs) (hi : i < n) (u : Value) : Own (w.setCell ⟨b, off + i, none⟩ u) e 1 (some ⟨b, off, none⟩) n c (xs.set i u) := by
  refine ⟨by rw [List.length_set]; exact h.1, ?_⟩
  rcases h.form with ⟨h', _⟩ | ⟨g, cur, h', hg, h1, h2, h3, h4⟩
  · cases h'
  · injection h' with h'
    injection h' with e1 e2
    subst e1 e2
    rw [Nat.zero_add]
    refine .inr ⟨b, c, cur.setIfInBounds i u, rfl, Nat.zero_le _, hg.set_ i u, h1, h2, by rw [Array.size_setIfInBounds]; exact h3, ?_⟩
    rw [Array.toList_setIfInBounds, ← h4, List.take_set]
theorem ret_bool {v : Value} {b b' : Bool} (hv : v = .bool b) (h : b = b') : Ending.returned v = Ending.returned (.bool b') := by rw [hv, h]
theorem sign_test {l : List UInt8} {k : Nat} (hk : k < l.length) (c : UInt8) {n : Int} (hn : (c.toNat : Int) = n) : ((((str l)[k]'(by rw [str_size]; exact hk)).toNat : Int) == n) = (l[k] == c) := by
  rw [str_get, Bool.eq_iff_iff, beq_iff_eq, beq_iff_eq, ← UInt8.toNat_inj]
  omega
theorem sign_no {l : List UInt8} {k : Nat} (hk : k < l.length) {c : UInt8} (h : l[k] ≠ c) {n : Int} (hn : (c.toNat : Int) = n) : ((((str l)[k]'(by rw [str_size]; exact hk)).toNat : Int) == n) = false := by
  rw [sign_test hk c hn]
  simpa using h

section
variable {P : Program} {w : World}
theorem run_string_bytes (src dst e : TypeId) (l : List UInt8) (hs : P.underlying src = some .string) (hd : P.underlying dst = some (.slice e)) (he : P.underlying e = some (.int .u8)) (hl : l.length ≤ maxLen) :
    ∃ c' w', (convert src dst (.string (str l))).run P w = .ok (.slice (some ⟨w.heap.size, 0, none⟩) l.length c') w' ∧ Sl w' (some ⟨w.heap.size, 0, none⟩) l.length c' 1 (u8s l) ∧ Step (fun _ => False) w w' ∧ w'.heap.size = w.heap.size + 1 := by
  have hsz := str_size l
  refine ⟨_, _, (run_bytes_of_string w src dst e (str l) hs hd he).trans (by rw [hsz]), ⟨by simp [u8s], by have := grownCap_ge w l.length 0 e; omega, by have := grownCap_le_maxLen w l.length 0 e (by omega); omega, fun _ => ⟨_, 0, rfl, by simp, fun i u hu => ?_⟩⟩, ((Step.refl _ _).drew).alloc _, by simp⟩
  rw [Nat.zero_add]
  refine (World.cell?_alloc_mark _ _ _ _ i).trans ?_
  have hi : i < l.length := by have := (List.getElem?_eq_some_iff.1 hu).1; simpa [u8s] using this
  have hda : (str l).data = l.toArray := rfl
  rw [bytesRow_at _ _ _ (by rw [hda]; simpa using hi), ← hu, u8s_get l i hi]
  simp only [hda, List.getElem_toArray]
  rfl

/-- []byte(s). -/
theorem wl_bytes {ops : Array Oper} {rest : List Oper} {o : Oper} {a : Act} {Q : Exit → Act → World → Prop} (hgd : Region.wanted o (yielded ops a.tmps) = true) (src dst e : TypeId) (x : Operand) (ho : o.op = .convert src dst x)
    (l : List UInt8) (hx : a.eval x = .string (str l)) (hs : P.underlying src = some .string) (hd : P.underlying dst = some (.slice e)) (he : P.underlying e = some (.int .u8)) (hl : l.length ≤ maxLen)
    (hk : ∀ c' w', Sl w' (some ⟨w.heap.size, 0, none⟩) l.length c' 1 (u8s l) → Step (fun _ => False) w w' → w'.heap.size = w.heap.size + 1 → wpList P ops Q rest (a.put o.dst (.slice (some ⟨w.heap.size, 0, none⟩) l.length c')) w') :
    wpList P ops Q (o :: rest) a w := by
  refine wpList_want hgd fun K hK => ?_
  obtain ⟨c', w', hrun, h1, h2, h3⟩ := run_string_bytes (P := P) (w := w) src dst e l hs hd he hl
  unfold Oper.wp execOp
  simp only [ho, hx, Sem.run_bind, Sem.run_pure, Result.andThen_ok, hrun]
  exact hK _ _ (hk c' w' h1 h2 h3)
end
end Go.Proofs.Ytemhfociaikijaa
