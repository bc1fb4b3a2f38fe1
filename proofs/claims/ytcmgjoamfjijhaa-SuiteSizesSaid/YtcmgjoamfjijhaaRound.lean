/- Operations within a round of a range over a function. Program independent. -/
import Derived.Test.YtcmgjoamfjijhaaIter
import Derived.Test.YtcmgjoamfjijhaaStr
namespace Go.Proofs.Ytcmgjoamfjijhaa
open Go.RowKit

section
variable {F : Fence} {fn : Nat} {P : Program} (w : World)
/-- An operation that is carried out and makes a value. -/
theorem wi_op {ops : Array Oper} {rest : List Oper} {o : Oper} {a : Act} {w w' : World} {Q : Exit → Act → World → Prop} {v : Value} (hgd : Region.wanted o (yielded ops a.tmps) = true) (hnd : ∀ c, o.op ≠ .defer c) (hab : o.about P w a.eval = none)
    (hrun : (execOp a.eval o).run P w = .ok (.value v) w') (hk : wpListIn F fn P ops Q rest (a.put o.dst v) w') : wpListIn F fn P ops Q (o :: rest) a w := by
  refine wpListIn_step fun K hK => ?_
  simp only [hgd, if_true]
  unfold Oper.wpIn
  refine ⟨fun f hf => (by rw [hab] at hf; cases hf), ?_⟩
  rw [Oper.semAt_plain F a.eval o hnd, hrun, Oper.uponIn_value]
  exact hK _ _ hk

/-- An operation that is carried out and makes none. -/
theorem wi_skip {ops : Array Oper} {rest : List Oper} {o : Oper} {a : Act} {w w' : World} {Q : Exit → Act → World → Prop} (hgd : Region.wanted o (yielded ops a.tmps) = true) (hnd : ∀ c, o.op ≠ .defer c) (hab : o.about P w a.eval = none)
    (hrun : (execOp a.eval o).run P w = .ok .skip w') (hk : wpListIn F fn P ops Q rest (a.put o.dst undef) w') : wpListIn F fn P ops Q (o :: rest) a w := by
  refine wpListIn_step fun K hK => ?_
  simp only [hgd, if_true]
  unfold Oper.wpIn
  refine ⟨fun f hf => (by rw [hab] at hf; cases hf), ?_⟩
  rw [Oper.semAt_plain F a.eval o hnd, hrun, Oper.uponIn_skip]
  exact hK _ _ hk

theorem op_store {o : Oper} {ρ : Operand → Value} (ty : TypeId) (x y : Operand) (ho : o.op = .store ty x y)
    (g off : Nat) (hx : ρ x = .pointer (some ⟨g, off, none⟩)) (v : Value) (xs : List Value) (hy : ρ y = v) (hv : v.cells = xs.toArray) (hi : (P.info? ty).map (·.size) = some xs.length) (h1 : ∀ u ∈ xs, u.oneCell' = true)
    (t : TypeId) (cs : Array Value) (hb : Blk w g t cs) (hoff : off + xs.length ≤ cs.size) :
    ∃ w', (execOp ρ o).run P w = .ok .skip w' ∧ Blk w' g t (cs.toList.take off ++ xs ++ cs.toList.drop (off + xs.length)).toArray ∧ Step (fun k => k = g) w w' ∧ w'.heap.size = w.heap.size := by
  have hst := run_storeCells_at P g off t xs 0 cs w hb (by omega) h1
  rw [Nat.add_zero] at hst
  obtain ⟨h2, h3⟩ := hb.setRow (cs.toList.take off ++ xs ++ cs.toList.drop (off + xs.length)).toArray
  refine ⟨_, ?_, h2, h3, by simp⟩
  cases hq : P.info? ty with
  | none => simp [hq] at hi
  | some i =>
    have hs : i.size = xs.length := by simpa [hq] using hi
    have hvv : (storeVar ty ⟨g, off, none⟩ v).run P w = .ok () (w.setRow g (cs.toList.take off ++ xs ++ cs.toList.drop (off + xs.length)).toArray) := by
      simp only [storeVar, Sem.run_bind, sizeOf, typeInfo, hv]
      simp [hq, hs, hst]
    unfold execOp
    simp only [ho, hx, hy, Instr.storeAt, Instr.sureAddr, Sem.run_bind, Sem.run_pure, Result.andThen_ok, hvv]

/-- One cell of a variable stored, within a round. -/
theorem wi_put {ops : Array Oper} {rest : List Oper} {o : Oper} {a : Act} {Q : Exit → Act → World → Prop} (hgd : Region.wanted o (yielded ops a.tmps) = true) (ty : TypeId) (x y : Operand) (ho : o.op = .store ty x y)
    (g off : Nat) (hx : a.eval x = .pointer (some ⟨g, off, none⟩)) (v : Value) (hy : a.eval y = v) (hv : v.cells = #[v]) (h1 : v.oneCell' = true) (hi : (P.info? ty).map (·.size) = some 1)
    (t : TypeId) (cs : Array Value) (hb : Blk w g t cs) (hoff : off < cs.size)
    (hk : ∀ w', Blk w' g t (cs.setIfInBounds off v) → Step (fun k => k = g) w w' → wpListIn F fn P ops Q rest (a.put o.dst undef) w') : wpListIn F fn P ops Q (o :: rest) a w := by
  obtain ⟨w', hrun, hb', hs', _⟩ := op_store (P := P) w ty x y ho g off hx v [v] hy hv hi (by simpa using h1) t cs hb (by simp; omega)
  refine wi_skip hgd (by simp [ho]) (by simp [Oper.about, ho]) hrun (hk w' ?_ hs')
  have e : (cs.toList.take off ++ [v] ++ cs.toList.drop (off + [v].length)).toArray = cs.setIfInBounds off v := by
    apply Array.toList_inj.1
    rw [Array.toList_setIfInBounds, List.set_eq_take_append_cons_drop, if_pos (by simpa using hoff)]
    simp
  rwa [e] at hb'

theorem wl_skip {ops : Array Oper} {rest : List Oper} {o : Oper} {a : Act} {w w' : World} {Q : Exit → Act → World → Prop} (hgd : Region.wanted o (yielded ops a.tmps) = true)
    (hrun : (execOp a.eval o).run P w = .ok .skip w') (hk : wpList P ops Q rest (a.put o.dst undef) w') : wpList P ops Q (o :: rest) a w := by
  refine wpList_want hgd fun K hK => ?_
  unfold Oper.wp
  rw [hrun]
  exact hK _ _ hk
theorem wl_op {ops : Array Oper} {rest : List Oper} {o : Oper} {a : Act} {w w' : World} {Q : Exit → Act → World → Prop} {v : Value} (hgd : Region.wanted o (yielded ops a.tmps) = true)
    (hrun : (execOp a.eval o).run P w = .ok (.value v) w') (hk : wpList P ops Q rest (a.put o.dst v) w') : wpList P ops Q (o :: rest) a w := by
  refine wpList_want hgd fun K hK => ?_
  unfold Oper.wp
  rw [hrun]
  exact hK _ _ hk
/-- One cell of a variable stored. -/
theorem wl_put {ops : Array Oper} {rest : List Oper} {o : Oper} {a : Act} {Q : Exit → Act → World → Prop} (hgd : Region.wanted o (yielded ops a.tmps) = true) (ty : TypeId) (x y : Operand) (ho : o.op = .store ty x y)
    (g off : Nat) (hx : a.eval x = .pointer (some ⟨g, off, none⟩)) (v : Value) (hy : a.eval y = v) (hv : v.cells = #[v]) (h1 : v.oneCell' = true) (hi : (P.info? ty).map (·.size) = some 1)
    (t : TypeId) (cs : Array Value) (hb : Blk w g t cs) (hoff : off < cs.size)
    (hk : ∀ w', Blk w' g t (cs.setIfInBounds off v) → Step (fun k => k = g) w w' → wpList P ops Q rest (a.put o.dst undef) w') : wpList P ops Q (o :: rest) a w := by
  obtain ⟨w', hrun, hb', hs', _⟩ := op_store (P := P) w ty x y ho g off hx v [v] hy hv hi (by simpa using h1) t cs hb (by simp; omega)
  refine wl_skip hgd hrun (hk w' ?_ hs')
  have e : (cs.toList.take off ++ [v] ++ cs.toList.drop (off + [v].length)).toArray = cs.setIfInBounds off v := by
    apply Array.toList_inj.1
    rw [Array.toList_setIfInBounds, List.set_eq_take_append_cons_drop, if_pos (by simpa using hoff)]
    simp
  rwa [e] at hb'

/-- append, within a round. -/
theorem wi_append {ops : Array Oper} {rest : List Oper} {o : Oper} {a : Act} {Q : Exit → Act → World → Prop} (hgd : Region.wanted o (yielded ops a.tmps) = true) (s x : Operand) (t : TypeId)
    (ho : o.op = .call { callee := .builtin .append, args := #[s, x], argTypes := #[t, t] })
    (e : TypeId) (i : TypeInfo) (z : Value) (sz bytes : Nat) (ht : P.underlying t = some (.slice e)) (hi : P.info? e = some i) (hz : i.zero = some z)
    (hsize : i.size = sz) (hby : i.bytes = bytes) (hzs : z.cells.size = sz) (hsz : 0 < sz)
    (A : Option Addr) (n c : Nat) (xs : List Value) (hs : a.eval s = .slice A n c) (hown : Own w e sz A n c xs)
    (B : Option Addr) (m d : Nat) (ys : List Value) (hx : a.eval x = .slice B m d) (hr : Sl w B m d sz ys) (h1 : ∀ u ∈ ys, u.oneCell' = true)
    (h63 : n + m ≤ maxLen) (hbytes : (n + m) * bytes ≤ 140737488355328)
    (h : ∀ A' c' w', Own w' e sz A' (n + m) c' (xs ++ ys) → Step (At A) w w' → (∀ k, At A' k → At A k ∨ w.heap.size ≤ k) → wpListIn F fn P ops Q rest (a.put o.dst (.slice A' (n + m) c')) w') : wpListIn F fn P ops Q (o :: rest) a w := by
  obtain ⟨A', c', w', hrun, h2, h3, h4⟩ := run_append (P := P) w t o.type e i z sz bytes ht hi hz hsize hby hzs hsz A n c xs hown B m d ys hr h1 h63 hbytes
  refine wi_op hgd (by simp [ho]) (by simp [Oper.about, ho, resolve, Target.leads]) ?_ (h A' c' w' h2 h3 h4)
  unfold execOp
  simp only [ho, resolve, invoke, builtin, Sem.run_bind, Sem.run_pure, Result.andThen_ok, List.map_toArray, List.map_cons, List.map_nil, hs, hx, hrun]
end

section
variable {F : Fence} {fn : Nat} {P : Program} {w : World}
theorem wi_alloc {ops : Array Oper} {rest : List Oper} {o : Oper} {a : Act} {Q : Exit → Act → World → Prop} (hgd : Region.wanted o (yielded ops a.tmps) = true) (ty : TypeId) (ho : o.op = .alloc ty)
    (z : Value) (hz : (P.info? ty).map (·.zero) = some (some z)) (hk : ∀ w', Blk w' w.heap.size ty z.cells → Step (fun _ => False) w w' → wpListIn F fn P ops Q rest (a.put o.dst (.pointer (some ⟨w.heap.size, 0, none⟩))) w') :
    wpListIn F fn P ops Q (o :: rest) a w := by
  refine wi_op hgd (by simp [ho]) (by simp [Oper.about, ho]) ?_ (hk _ (Blk.new w ty z.cells) ((Step.refl _ _).alloc _))
  unfold execOp
  simp only [ho, Sem.run_bind, Sem.run_pure, Result.andThen_ok, run_alloc_var hz]
theorem wi_load {ops : Array Oper} {rest : List Oper} {o : Oper} {a : Act} {Q : Exit → Act → World → Prop} (hgd : Region.wanted o (yielded ops a.tmps) = true) (ty : TypeId) (x : Operand) (ho : o.op = .load ty x)
    (g off : Nat) (hx : a.eval x = .pointer (some ⟨g, off, none⟩)) (xs : List Value) (d : TypeDesc) (hu : P.underlying ty = some d) (hd : (match d with | .struct _ | .array _ _ => true | _ => false) = true) (hi : (P.info? ty).map (·.size) = some xs.length)
    (h : Cells w g off xs) (hk : wpListIn F fn P ops Q rest (a.put o.dst (.agg xs.toArray)) w) : wpListIn F fn P ops Q (o :: rest) a w := by
  refine wi_op hgd (by simp [ho]) (by simp [Oper.about, ho]) ?_ hk
  unfold execOp
  simp only [ho, hx, Instr.loadAt, Instr.sureAddr, Sem.run_bind, Sem.run_pure, Result.andThen_ok, run_loadVar_agg hu hd hi h]
theorem wi_store_all {ops : Array Oper} {rest : List Oper} {o : Oper} {a : Act} {Q : Exit → Act → World → Prop} (hgd : Region.wanted o (yielded ops a.tmps) = true) (ty : TypeId) (x y : Operand) (ho : o.op = .store ty x y)
    (g : Nat) (hx : a.eval x = .pointer (some ⟨g, 0, none⟩)) (xs : List Value) (hy : a.eval y = .agg xs.toArray) (hi : (P.info? ty).map (·.size) = some xs.length) (h1 : ∀ u ∈ xs, u.oneCell' = true)
    (t : TypeId) (cs : Array Value) (hb : Blk w g t cs) (hsz : cs.size = xs.length)
    (hk : ∀ w', Blk w' g t xs.toArray → Step (fun k => k = g) w w' → wpListIn F fn P ops Q rest (a.put o.dst undef) w') : wpListIn F fn P ops Q (o :: rest) a w := by
  obtain ⟨w', hrun, hb', hs', _⟩ := op_store (P := P) w ty x y ho g 0 hx (.agg xs.toArray) xs hy rfl hi h1 t cs hb (by omega)
  refine wi_skip hgd (by simp [ho]) (by simp [Oper.about, ho]) hrun (hk w' ?_ hs')
  rwa [List.take_zero, List.nil_append, List.drop_eq_nil_of_le (by simp; omega), List.append_nil] at hb'
end

section
variable {P : Program} {w : World}
theorem load_one {ty : TypeId} {d : TypeDesc} (hu : P.underlying ty = some d) (hd : d.isRow = false) {g off : Nat} {v : Value} (hc : w.cell? ⟨g, off, none⟩ = some v) :
    (loadVar ty ⟨g, off, none⟩).run P w = .ok v w := by
  have hagg : (isAgg ty).run P w = .ok false w := by
    unfold isAgg
    rw [Sem.run_bind, run_underlying hu w]
    cases d <;> simp_all [TypeDesc.isRow]
  simp [loadVar, Sem.run_bind, hagg, hc]
theorem res_cell2 {fn : Func} {p q : Tmp} {ty ty2 : TypeId} (h : fn.results = #[.cell p ty, .cell q ty2]) {tmps : Array Value} {g off g2 off2 : Nat} {v u : Value} (hp : tmps.getD p undef = .pointer (some ⟨g, off, none⟩)) (hq : tmps.getD q undef = .pointer (some ⟨g2, off2, none⟩))
    (hl : (loadVar ty ⟨g, off, none⟩).run P w = .ok v w) (hl2 : (loadVar ty2 ⟨g2, off2, none⟩).run P w = .ok u w) : (results fn tmps).run P w = .ok (.tuple #[v, u]) w := by
  have hp' : tmps[p]?.getD undef = .pointer (some ⟨g, off, none⟩) := by simpa using hp
  have hq' : tmps[q]?.getD undef = .pointer (some ⟨g2, off2, none⟩) := by simpa using hq
  simp [results, h, hp', hq', asAddr, hl, hl2]
theorem res_cell1 {fn : Func} {p : Tmp} {ty : TypeId} (h : fn.results = #[.cell p ty]) {tmps : Array Value} {g off : Nat} {v : Value} (hp : tmps.getD p undef = .pointer (some ⟨g, off, none⟩))
    (hl : (loadVar ty ⟨g, off, none⟩).run P w = .ok v w) : (results fn tmps).run P w = .ok v w := res_cell h hp hl

/-- A return, no range over a function having run. -/
theorem ret_plain {fn : Func} {n : Nat} {R : Ending → World → Prop} {a : Act} {v : Value} (hr : (results fn a.tmps).run P w = .ok v w) (hd : a.defers = []) (h : R (.returned v) w) : bodyPostM Fence.wide n P fn R .ret a w := by
  show LeavesInM Fence.wide n P fn a.tmps R a.defers .returning w
  rw [hd]
  exact ⟨v, hr, h⟩
/-- A return behind a range over a function. -/
theorem ret_mark {fn : Func} {n : Nat} {R : Ending → World → Prop} {a : Act} {v : Value} {D : Nat} (hK : w.heap[D]? = some (.deferred (some []))) (hd : a.defers = [{ target := .collected D, args := #[] }])
    (hr : (results fn a.tmps).run P (w.putObj D (.deferred none)) = .ok v (w.putObj D (.deferred none))) (h : R (.returned v) (w.putObj D (.deferred none))) : bodyPostM Fence.wide n P fn R .ret a w := by
  show LeavesInM Fence.wide n P fn a.tmps R a.defers .returning w
  rw [hd]
  exact ⟨by simp, .inl ⟨_, _, rfl, run_takeDeferred hK, ⟨v, hr, h⟩⟩⟩
end
end Go.Proofs.Ytcmgjoamfjijhaa
