/- A text as bytes, at the walk. Program independent. -/
import Derived.Test.YtcmgjoamfjijhaaAgg
import Derived.Laws.IdiomStrings
import Derived.Lib.AppendStr
namespace Go.Proofs.Ytcmgjoamfjijhaa
open Go.RowKit

theorem str_append (l m : List UInt8) : str l ++ str m = str (l ++ m) := by
  apply ByteArray.ext
  simp [str, ByteArray.data_append]
theorem sl_one (W : World) (t : TypeId) (v : Value) : Sl (W.alloc (.cells #[v] t)) (some ⟨W.heap.size, 0, none⟩) 1 1 1 [v] :=
  ⟨rfl, Nat.le_refl _, by simp [maxLen], fun _ => ⟨_, 0, rfl, by simp, by
    intro i u hu
    rw [Nat.zero_add]
    exact ((Blk.new W _ _).cell i).trans (by simpa using hu)⟩⟩
theorem own_one (W : World) (t : TypeId) (v : Value) : Own (W.alloc (.cells #[v] t)) t 1 (some ⟨W.heap.size, 0, none⟩) 1 1 [v] :=
  ⟨rfl, .inr ⟨_, 1, #[v], rfl, Nat.zero_le _, Blk.new W t #[v], Nat.le_refl _, by simp [maxLen], rfl, rfl⟩⟩
theorem Own.set_ {w : World} {e : TypeId} {b off n c i : Nat} {xs : List Value} (h : Own w e 1 (some ⟨b, off, none⟩) n c xs) (_ : i < n) (u : Value) : Own (w.setCell ⟨b, off + i, none⟩ u) e 1 (some ⟨b, off, none⟩) n c (xs.set i u) := by
  refine ⟨by rw [List.length_set]; exact h.1, ?_⟩
  rcases h.form with ⟨h', _⟩ | ⟨g, cur, h', hg, h1, h2, h3, h4⟩
  · cases h'
  · injection h' with h'
    injection h' with e1 e2
    subst e1 e2
    rw [Nat.zero_add]
    refine .inr ⟨b, c, cur.setIfInBounds i u, rfl, Nat.zero_le _, hg.set_ i u, h1, h2, by rw [Array.size_setIfInBounds]; exact h3, ?_⟩
    rw [Array.toList_setIfInBounds, ← h4, List.take_set]
theorem Blk.sl_ {w : World} {g : Nat} {t : TypeId} {xs : List Value} (h : Blk w g t xs.toArray) {n : Nat} (hn : xs.length = n) (hm : n ≤ maxLen) : Sl w (some ⟨g, 0, none⟩) n n 1 xs :=
  ⟨by omega, Nat.le_refl _, hm, fun _ => ⟨g, 0, rfl, h.lt, fun i u hu => by rw [Nat.zero_add, h.cell]; simpa using hu⟩⟩
theorem ret_bool {v : Value} {b b' : Bool} (hv : v = .bool b) (h : b = b') : Ending.returned v = Ending.returned (.bool b') := by rw [hv, h]
theorem sign_test {l : List UInt8} {k : Nat} (hk : k < l.length) (c : UInt8) {n : Int} (hn : (c.toNat : Int) = n) : ((((str l)[k]'(by rw [str_size]; exact hk)).toNat : Int) == n) = (l[k] == c) := by
  rw [str_get, Bool.eq_iff_iff, beq_iff_eq, beq_iff_eq, ← UInt8.toNat_inj]
  omega
theorem sign_no {l : List UInt8} {k : Nat} (hk : k < l.length) {c : UInt8} (h : l[k] ≠ c) {n : Int} (hn : (c.toNat : Int) = n) : ((((str l)[k]'(by rw [str_size]; exact hk)).toNat : Int) == n) = false := by
  rw [sign_test hk c hn]
  simpa using h

section
variable {P : Program} {w : World}
theorem run_string_bytes (src dst e : TypeId) (l : List UInt8) (hs : P.underlying src = some .string) (hd : P.underlying dst = some (.slice e)) (he : P.underlying e = some (.int .u8)) (hl : l.length ≤ maxLen) :
    ∃ c' w', (convert src dst (.string (str l))).run P w = .ok (.slice (some ⟨w.heap.size, 0, none⟩) l.length c') w' ∧ Sl w' (some ⟨w.heap.size, 0, none⟩) l.length c' 1 (u8s l) ∧ Step (fun _ => False) w w' ∧ w'.heap.size = w.heap.size + 1 := by
  have hsz := str_size l
  refine ⟨_, _, (run_bytes_of_string w src dst e (str l) hs hd he).trans (by rw [hsz]), ⟨by simp [u8s], by have := grownCap_ge w l.length 0 e; omega, by have := grownCap_le_maxLen w l.length 0 e (by omega); omega, fun _ => ⟨_, 0, rfl, by simp, fun i u hu => ?_⟩⟩, ((Step.refl _ _).drew).alloc _, by simp⟩
  rw [Nat.zero_add]
  refine (World.cell?_alloc_mark _ _ _ _ i).trans ?_
  have hi : i < l.length := by have := (List.getElem?_eq_some_iff.1 hu).1; simpa [u8s] using this
  have hda : (str l).data = l.toArray := rfl
  rw [bytesRow_at _ _ _ (by rw [hda]; simpa using hi), ← hu, u8s_get l i hi]
  simp only [hda, List.getElem_toArray]
  rfl

/-- []byte(s). -/
theorem wl_bytes {ops : Array Oper} {rest : List Oper} {o : Oper} {a : Act} {Q : Exit → Act → World → Prop} (hgd : Region.wanted o (yielded ops a.tmps) = true) (src dst e : TypeId) (x : Operand) (ho : o.op = .convert src dst x)
    (l : List UInt8) (hx : a.eval x = .string (str l)) (hs : P.underlying src = some .string) (hd : P.underlying dst = some (.slice e)) (he : P.underlying e = some (.int .u8)) (hl : l.length ≤ maxLen)
    (hk : ∀ c' w', Sl w' (some ⟨w.heap.size, 0, none⟩) l.length c' 1 (u8s l) → Step (fun _ => False) w w' → w'.heap.size = w.heap.size + 1 → wpList P ops Q rest (a.put o.dst (.slice (some ⟨w.heap.size, 0, none⟩) l.length c')) w') :
    wpList P ops Q (o :: rest) a w := by
  refine wpList_want hgd fun K hK => ?_
  obtain ⟨c', w', hrun, h1, h2, h3⟩ := run_string_bytes (P := P) (w := w) src dst e l hs hd he hl
  unfold Oper.wp execOp
  simp only [ho, hx, Sem.run_bind, Sem.run_pure, Result.andThen_ok, hrun]
  exact hK _ _ (hk c' w' h1 h2 h3)

theorem strCells_str (l : List UInt8) : Lib.strCells (str l) = u8s l := rfl
theorem run_append_str (B0 : Nat) (t u ty e : TypeId) (i : TypeInfo) (ht : P.underlying t = some (.slice e)) (hu : P.underlying u = some .string) (hi : P.info? e = some i) (hz : i.zero = some (.int .u8 0)) (hsize : i.size = 1) (hby : i.bytes = 1)
    (A : Option Addr) (n c : Nat) (xs : List Value) (hown : Own w e 1 A n c xs) (hA : ∀ k, At A k → B0 ≤ k) (hB0 : B0 ≤ w.heap.size) (l : List UInt8) (h63 : n + l.length ≤ maxLen) (hbytes : n + l.length ≤ 140737488355328) :
    ∃ A' c' w', (Builtin.append_ #[t, u] ty #[.slice A n c, .string (str l)]).run P w = .ok (.slice A' (n + l.length) c') w' ∧ Own w' e 1 A' (n + l.length) c' (xs ++ u8s l) ∧ Step (At A) w w' ∧ (∀ k, At A' k → B0 ≤ k) := by
  have hb : w.ownsRow B0 e 1 (.slice A n c) n xs := by
    refine ⟨hown.1, ?_⟩
    rcases hown.form with ⟨rfl, rfl, rfl, rfl⟩ | ⟨g, cur, rfl, hg, h1, h2, h3, h4⟩
    · exact .inl ⟨rfl, rfl⟩
    · exact .inr ⟨g, c, cur, rfl, hA g ⟨_, rfl, rfl⟩, hg, h1, h2, h3, h4⟩
  have hs := str_size l
  obtain ⟨v', w', hrun, h2, h3, _⟩ := Lib.run_append_own_string (P := P) w B0 t u ty e i ht hu hi hz hsize hby (.slice A n c) n xs hb (str l) (by omega) (by omega) hB0
  rw [hs, strCells_str] at h2
  have hst : Step (At A) w w' := ⟨h3.os, h3.tape, h3.output, h3.size, fun k hk hn => h3.block k hk (fun e => hn ((ownBlock_at n c).1 e.symm))⟩
  rcases h2.2 with ⟨rfl, hn⟩ | ⟨g, cap, cur, rfl, hbg, hg, h4⟩
  · refine ⟨none, 0, w', by rw [hrun, hn], ?_, hst, fun k hk => (at_nil hk).elim⟩
    exact ⟨h2.1, .inl ⟨by rw [hn], hn⟩⟩
  · exact ⟨_, cap, w', hrun, ⟨h2.1, .inr ⟨g, cap, cur, rfl, Nat.zero_le _, hg, h4⟩⟩, hst, fun k ⟨a, e1, e2⟩ => by cases e1; exact e2 ▸ hbg⟩

/-- append(b, s...). -/
theorem wl_append_str {ops : Array Oper} {rest : List Oper} {o : Oper} {a : Act} {Q : Exit → Act → World → Prop} (hgd : Region.wanted o (yielded ops a.tmps) = true) (s x : Operand) (t u : TypeId)
    (ho : o.op = .call { callee := .builtin .append, args := #[s, x], argTypes := #[t, u] }) (B0 : Nat)
    (e : TypeId) (i : TypeInfo) (ht : P.underlying t = some (.slice e)) (hu : P.underlying u = some .string) (hi : P.info? e = some i) (hz : i.zero = some (.int .u8 0)) (hsize : i.size = 1) (hby : i.bytes = 1)
    (A : Option Addr) (n c : Nat) (xs : List Value) (hs : a.eval s = .slice A n c) (hown : Own w e 1 A n c xs) (hA : ∀ k, At A k → B0 ≤ k) (hB0 : B0 ≤ w.heap.size) (l : List UInt8) (hx : a.eval x = .string (str l)) (h63 : n + l.length ≤ maxLen) (hbytes : n + l.length ≤ 140737488355328)
    (h : ∀ A' c' w', Own w' e 1 A' (n + l.length) c' (xs ++ u8s l) → Step (At A) w w' → (∀ k, At A' k → B0 ≤ k) → wpList P ops Q rest (a.put o.dst (.slice A' (n + l.length) c')) w') : wpList P ops Q (o :: rest) a w := by
  refine wpList_want hgd fun K hK => ?_
  obtain ⟨A', c', w', hrun, h2, h3, h4⟩ := run_append_str (P := P) (w := w) B0 t u o.type e i ht hu hi hz hsize hby A n c xs hown hA hB0 l h63 hbytes
  unfold Oper.wp execOp
  simp only [ho, resolve, invoke, builtin, Sem.run_bind, Sem.run_pure, Result.andThen_ok, List.map_toArray, List.map_cons, List.map_nil, hs, hx, hrun]
  exact hK _ _ (h A' c' w' h2 h3 h4)
end
end Go.Proofs.Ytcmgjoamfjijhaa
