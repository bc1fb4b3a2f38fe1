/- Arrays and structs as whole values in memory: load, store, a new variable, the zero value, comparison, results in cells. Program independent. -/
import Derived.Test.YtcmgjoamfjijhaaLib
import Derived.Stop.BytesEq
import Derived.Deep.MidRow
import Derived.Deep.RegionHeld3
namespace Go.Proofs.Ytcmgjoamfjijhaa
open Go.RowKit

/-- An array of bytes as a value. -/
def arr (l : List UInt8) : Value := .agg (u8s l).toArray
theorem u8s_length (l : List UInt8) : (u8s l).length = l.length := by simp [u8s]
def zeros (n : Nat) : List UInt8 := List.replicate n 0
theorem zeros_length (n : Nat) : (zeros n).length = n := by simp [zeros]

section
variable {P : Program} {w : World}

/-- The cells xs stand at place off of block g. -/
abbrev Cells (w : World) (g off : Nat) (xs : List Value) : Prop := w.rangeAt g off xs

theorem Blk.cells {g : Nat} {t : TypeId} {cs : Array Value} (h : Blk w g t cs) : Cells w g 0 cs.toList := fun i u hu => by
  rw [Nat.zero_add, h.cell]; simpa using hu
theorem Blk.part {g : Nat} {t : TypeId} {cs : Array Value} (h : Blk w g t cs) {off : Nat} {xs : List Value} (hx : (cs.toList.drop off).take xs.length = xs) : Cells w g off xs := fun i u hu => by
  rw [h.cell]
  have hi : i < xs.length := (List.getElem?_eq_some_iff.1 hu).1
  rw [← hx, List.getElem?_take, if_pos hi, List.getElem?_drop] at hu
  simpa using hu
theorem Cells.step {w' : World} {S : Nat → Prop} {g off : Nat} {xs : List Value} (h : Cells w g off xs) (hs : Step S w w') (hg : ¬ S g) : Cells w' g off xs := fun i u hu => hs.cell (h i u hu) hg
theorem Sl.cells {A : Option Addr} {n c sz : Nat} {xs : List Value} (h : Sl w A n c sz xs) {b off : Nat} (e : A = some ⟨b, off, none⟩) : Cells w b off xs := fun i u hu => by
  have := h.adds e i u hu
  rwa [add_none] at this

theorem run_loadVar_agg {ty : TypeId} {d : TypeDesc} {g off : Nat} {xs : List Value} (hu : P.underlying ty = some d) (hd : (match d with | .struct _ | .array _ _ => true | _ => false) = true) (hi : (P.info? ty).map (·.size) = some xs.length)
    (h : Cells w g off xs) : (loadVar ty ⟨g, off, none⟩).run P w = .ok (.agg xs.toArray) w := by
  have hl := run_loadCells_list (P := P) w ⟨g, off, none⟩ xs (fun j v hv => by rw [add_none]; exact h j v hv)
  cases hq : P.info? ty with
  | none => simp [hq] at hi
  | some i =>
    have hs : i.size = xs.length := by simpa [hq] using hi
    have hagg : (isAgg ty).run P w = .ok true w := by
      unfold isAgg
      rw [Sem.run_bind, run_underlying hu w]
      cases d <;> simp_all
    simp [loadVar, Sem.run_bind, hagg, sizeOf, typeInfo, hq, hs, hl]

/-- A whole array or struct loaded. -/
theorem wl_load {ops : Array Oper} {rest : List Oper} {o : Oper} {a : Act} {Q : Exit → Act → World → Prop} (hgd : Region.wanted o (yielded ops a.tmps) = true) (ty : TypeId) (x : Operand) (ho : o.op = .load ty x)
    (g off : Nat) (hx : a.eval x = .pointer (some ⟨g, off, none⟩)) (xs : List Value) (d : TypeDesc) (hu : P.underlying ty = some d) (hd : (match d with | .struct _ | .array _ _ => true | _ => false) = true) (hi : (P.info? ty).map (·.size) = some xs.length)
    (h : Cells w g off xs) (hk : wpList P ops Q rest (a.put o.dst (.agg xs.toArray)) w) : wpList P ops Q (o :: rest) a w := by
  refine wpList_want hgd fun K hK => ?_
  unfold Oper.wp execOp
  simp only [ho, hx, Instr.loadAt, Instr.sureAddr, Sem.run_bind, Sem.run_pure, Result.andThen_ok, run_loadVar_agg hu hd hi h]
  exact hK _ _ hk

theorem Blk.setRow {g : Nat} {t : TypeId} {cs : Array Value} (h : Blk w g t cs) (cs' : Array Value) : Blk (w.setRow g cs') g t cs' ∧ Step (fun k => k = g) w (w.setRow g cs') :=
  ⟨setRow_heap w g cs cs' t _ h, ⟨rfl, rfl, rfl, by simp, fun k _ hk => setRow_other w g k _ hk⟩⟩

/-- A whole array or struct stored. -/
theorem wl_store {ops : Array Oper} {rest : List Oper} {o : Oper} {a : Act} {Q : Exit → Act → World → Prop} (hgd : Region.wanted o (yielded ops a.tmps) = true) (ty : TypeId) (x y : Operand) (ho : o.op = .store ty x y)
    (g off : Nat) (hx : a.eval x = .pointer (some ⟨g, off, none⟩)) (xs : List Value) (hy : a.eval y = .agg xs.toArray) (hi : (P.info? ty).map (·.size) = some xs.length) (h1 : ∀ u ∈ xs, u.oneCell' = true)
    (t : TypeId) (cs : Array Value) (hb : Blk w g t cs) (hoff : off + xs.length ≤ cs.size)
    (hk : ∀ w', Blk w' g t (cs.toList.take off ++ xs ++ cs.toList.drop (off + xs.length)).toArray → Step (fun k => k = g) w w' → w'.heap.size = w.heap.size → wpList P ops Q rest (a.put o.dst undef) w') : wpList P ops Q (o :: rest) a w := by
  refine wpList_want hgd fun K hK => ?_
  have hst := run_storeCells_at P g off t xs 0 cs w hb (by omega) h1
  rw [Nat.add_zero] at hst
  obtain ⟨h2, h3⟩ := hb.setRow (cs.toList.take off ++ xs ++ cs.toList.drop (off + xs.length)).toArray
  have hk' := hK _ _ (hk _ h2 h3 (by simp))
  cases hq : P.info? ty with
  | none => simp [hq] at hi
  | some i =>
    have hs : i.size = xs.length := by simpa [hq] using hi
    have hv : (storeVar ty ⟨g, off, none⟩ (.agg xs.toArray)).run P w = .ok () (w.setRow g (cs.toList.take off ++ xs ++ cs.toList.drop (off + xs.length)).toArray) := by
      simp only [storeVar, Sem.run_bind, sizeOf, typeInfo, Value.cells]
      simp [hq, hs, hst]
    unfold Oper.wp execOp
    simp only [ho, hx, hy, Instr.storeAt, Instr.sureAddr, Sem.run_bind, Sem.run_pure, Result.andThen_ok, hv]
    exact hk'

/-- A whole variable stored over. -/
theorem wl_store_all {ops : Array Oper} {rest : List Oper} {o : Oper} {a : Act} {Q : Exit → Act → World → Prop} (hgd : Region.wanted o (yielded ops a.tmps) = true) (ty : TypeId) (x y : Operand) (ho : o.op = .store ty x y)
    (g : Nat) (hx : a.eval x = .pointer (some ⟨g, 0, none⟩)) (xs : List Value) (hy : a.eval y = .agg xs.toArray) (hi : (P.info? ty).map (·.size) = some xs.length) (h1 : ∀ u ∈ xs, u.oneCell' = true)
    (t : TypeId) (cs : Array Value) (hb : Blk w g t cs) (hsz : cs.size = xs.length)
    (hk : ∀ w', Blk w' g t xs.toArray → Step (fun k => k = g) w w' → w'.heap.size = w.heap.size → wpList P ops Q rest (a.put o.dst undef) w') : wpList P ops Q (o :: rest) a w := by
  refine wl_store hgd ty x y ho g 0 hx xs hy hi h1 t cs hb (by omega) fun w' hb' => hk w' ?_
  rw [List.take_zero, List.nil_append, List.drop_eq_nil_of_le (by simp; omega), List.append_nil] at hb'
  exact hb'
theorem arr_size (l : List UInt8) : (arr l).cells.size = l.length := by simp [arr, Value.cells, u8s]

theorem run_alloc_var {ty : TypeId} {z : Value} (hz : (P.info? ty).map (·.zero) = some (some z)) : (Instr.alloc ty true (.tuple #[])).run P w = .ok (.pointer (some ⟨w.heap.size, 0, none⟩)) (w.alloc (.cells z.cells ty)) := by
  cases hq : P.info? ty with
  | none => simp [hq] at hz
  | some i =>
    have hz' : i.zero = some z := by simpa [hq] using hz
    simp [Instr.alloc, zeroValue, typeInfo, hq, hz', newVar, newRow]

/-- A new variable of an array's or a struct's type. -/
theorem wl_alloc {ops : Array Oper} {rest : List Oper} {o : Oper} {a : Act} {Q : Exit → Act → World → Prop} (hgd : Region.wanted o (yielded ops a.tmps) = true) (ty : TypeId) (ho : o.op = .alloc ty)
    (z : Value) (hz : (P.info? ty).map (·.zero) = some (some z)) (hk : ∀ w', Blk w' w.heap.size ty z.cells → Step (fun _ => False) w w' → w'.heap.size = w.heap.size + 1 → wpList P ops Q rest (a.put o.dst (.pointer (some ⟨w.heap.size, 0, none⟩))) w') :
    wpList P ops Q (o :: rest) a w := by
  refine wpList_want hgd fun K hK => ?_
  have hk' := hK _ _ (hk _ (Blk.new w ty z.cells) ((Step.refl _ _).alloc _) (by simp))
  unfold Oper.wp execOp
  simp only [ho, Sem.run_bind, Sem.run_pure, Result.andThen_ok, run_alloc_var hz]
  exact hk'

/-- A value laid in a new variable. -/
theorem wl_box {ops : Array Oper} {rest : List Oper} {o : Oper} {a : Act} {Q : Exit → Act → World → Prop} (hgd : Region.wanted o (yielded ops a.tmps) = true) (ty : TypeId) (x : Operand) (ho : o.op = .box ty x) (v : Value) (hx : a.eval x = v)
    (hk : ∀ w', Blk w' w.heap.size ty v.cells → Step (fun _ => False) w w' → w'.heap.size = w.heap.size + 1 → wpList P ops Q rest (a.put o.dst (.pointer (some ⟨w.heap.size, 0, none⟩))) w') :
    wpList P ops Q (o :: rest) a w := by
  refine wpList_want hgd fun K hK => ?_
  have hk' := hK _ _ (hk _ (Blk.new w ty v.cells) ((Step.refl _ _).alloc _) (by simp))
  unfold Oper.wp execOp
  simp only [ho, hx, Instr.box, newVar, newRow, Sem.run_bind, Sem.run_pure, Result.andThen_ok, run_newObj]
  exact hk'

/-- The zero value of an array or a struct. -/
theorem wl_zero {ops : Array Oper} {rest : List Oper} {o : Oper} {a : Act} {Q : Exit → Act → World → Prop} (hgd : Region.wanted o (yielded ops a.tmps) = true) (ty : TypeId) (ho : o.op = .build ty #[])
    (z : Array Value) (hz : P.built ty [] = some z) (hk : wpList P ops Q rest (a.put o.dst (.agg z)) w) : wpList P ops Q (o :: rest) a w := by
  refine wpList_want hgd fun K hK => ?_
  have hr := run_build (P := P) w ty #[] z hz
  unfold Oper.wp execOp
  simp only [ho, List.map_toArray, List.map_nil, Sem.run_bind, Sem.run_pure, Result.andThen_ok, hr]
  exact hK _ _ hk

/-- The parts that 'return' reads: one variable whole, then plain slots. -/
theorem res_cell {fn : Func} {p : Tmp} {ty : TypeId} (h : fn.results = #[.cell p ty]) {tmps : Array Value} {g off : Nat} {v : Value} (hp : tmps.getD p undef = .pointer (some ⟨g, off, none⟩)) (hl : (loadVar ty ⟨g, off, none⟩).run P w = .ok v w) :
    (results fn tmps).run P w = .ok v w := by
  have hp' : tmps[p]?.getD undef = .pointer (some ⟨g, off, none⟩) := by simpa using hp
  simp [results, h, hp', asAddr, hl]
theorem res_cell_tmp {fn : Func} {p t : Tmp} {ty : TypeId} (h : fn.results = #[.cell p ty, .tmp t]) {tmps : Array Value} {g off : Nat} {v u : Value} (hp : tmps.getD p undef = .pointer (some ⟨g, off, none⟩)) (ht : tmps.getD t undef = u)
    (hl : (loadVar ty ⟨g, off, none⟩).run P w = .ok v w) : (results fn tmps).run P w = .ok (.tuple #[v, u]) w := by
  have hp' : tmps[p]?.getD undef = .pointer (some ⟨g, off, none⟩) := by simpa using hp
  have ht' : tmps[t]?.getD undef = u := by simpa using ht
  simp [results, h, hp', ht', asAddr, hl]
theorem res_cell_tmp2 {fn : Func} {p t s : Tmp} {ty : TypeId} (h : fn.results = #[.cell p ty, .tmp t, .tmp s]) {tmps : Array Value} {g off : Nat} {v u x : Value} (hp : tmps.getD p undef = .pointer (some ⟨g, off, none⟩)) (ht : tmps.getD t undef = u) (hs : tmps.getD s undef = x)
    (hl : (loadVar ty ⟨g, off, none⟩).run P w = .ok v w) : (results fn tmps).run P w = .ok (.tuple #[v, u, x]) w := by
  have hp' : tmps[p]?.getD undef = .pointer (some ⟨g, off, none⟩) := by simpa using hp
  have ht' : tmps[t]?.getD undef = u := by simpa using ht
  have hs' : tmps[s]?.getD undef = x := by simpa using hs
  simp [results, h, hp', ht', hs', asAddr, hl]

/-- The variable at block g whole, as bytes of an array. -/
theorem arr_load {ty e t : TypeId} {n g : Nat} {l : List UInt8} (hu : P.underlying ty = some (.array n e)) (hi : (P.info? ty).map (·.size) = some n) (hl : l.length = n) (h : Blk w g t (u8s l).toArray) :
    (loadVar ty ⟨g, 0, none⟩).run P w = .ok (arr l) w :=
  run_loadVar_agg hu rfl (by rw [hi]; simp [u8s, hl]) (by have := h.cells; simpa using this)

theorem run_eql_arr {t e : TypeId} {n : Nat} {i : TypeInfo} (ht : P.underlying t = some (.array n e)) (he : P.underlying e = some (.int .u8)) (hi : P.info? e = some i) (hs : i.size = 1) {xs ys : List UInt8} (hx : xs.length = n) (hy : ys.length = n) (W : World) :
    (binOp .eql t (arr xs) (arr ys)).run P W = .ok (.bool (xs == ys)) W :=
  run_eql_bytes W t e n ht he (fun w => by simp [sizeOf, typeInfo, hi, hs]) xs ys hx hy
theorem run_neq_arr {t e : TypeId} {n : Nat} {i : TypeInfo} (ht : P.underlying t = some (.array n e)) (he : P.underlying e = some (.int .u8)) (hi : P.info? e = some i) (hs : i.size = 1) {xs ys : List UInt8} (hx : xs.length = n) (hy : ys.length = n) (W : World) :
    (binOp .neq t (arr xs) (arr ys)).run P W = .ok (.bool (!(xs == ys))) W := by
  have h := run_equalIn_bytes (P := P) W 9998 t e n ht he (fun w => by simp [sizeOf, typeInfo, hi, hs]) xs ys hx hy
  have h2 := run_neq_struct (P := P) W t (xs.map Extern.Stop.cell).toArray (ys.map Extern.Stop.cell).toArray
  rw [h] at h2
  exact h2
/-- The same, as the walk spells it. -/
theorem run_eql_agg {t e : TypeId} {n : Nat} {i : TypeInfo} (ht : P.underlying t = some (.array n e)) (he : P.underlying e = some (.int .u8)) (hi : P.info? e = some i) (hs : i.size = 1) {xs ys : List UInt8} (hx : xs.length = n) (hy : ys.length = n) (W : World) :
    (binOp .eql t (.agg (u8s xs).toArray) (.agg (u8s ys).toArray)).run P W = .ok (.bool (xs == ys)) W := run_eql_arr ht he hi hs hx hy W
theorem run_neq_agg {t e : TypeId} {n : Nat} {i : TypeInfo} (ht : P.underlying t = some (.array n e)) (he : P.underlying e = some (.int .u8)) (hi : P.info? e = some i) (hs : i.size = 1) {xs ys : List UInt8} (hx : xs.length = n) (hy : ys.length = n) (W : World) :
    (binOp .neq t (.agg (u8s xs).toArray) (.agg (u8s ys).toArray)).run P W = .ok (.bool (!(xs == ys))) W := run_neq_arr ht he hi hs hx hy W
theorem run_guard_arr {t : TypeId} (hm : P.eqGuardType P.depth t = false) (op : BinOp) (x y : Operand) (xs ys : List UInt8) (W : World) : (eqGuard op t x y (arr xs) (arr ys)).run P W = .ok () W :=
  run_eqGuard_agg W op t x y _ _ hm
end

/-- The worlds that come of w by new blocks alone. -/
def Ext (w : World) : Type := { w' : World // Step (fun _ => False) w w' }
instance instExt (w : World) : Nonempty (Ext w) := ⟨⟨w, Step.refl _ _⟩⟩

section
variable {P : Program} {w : World}
/-- A region that draws its order, whose operations read old blocks and whose callees make new blocks alone: one walk. -/
theorem wp_region_ext {id : Nat} {Q : Exit → Act → World → Prop} {a : Act} {l : List Oper} (hm : P.follows .mixedOrders = true) (hB : Region.lexB .any l.toArray = true)
    (h : wpQuiet P l.toArray (fun w' => ∃ s : Ext w, w' = s.1) (fun a' => ∀ w', (∃ s : Ext w, w' = s.1) → Q .normal a' w') l a) : (Code.region id l.toArray true).wp P Q a w :=
  wp_region_quiet (C := fun w' => ∃ s : Ext w, w' = s.1) hm hB ⟨⟨_, (Step.refl _ _).drew⟩, rfl⟩ (by simpa using h)
/-- A callee that makes new blocks alone. -/
theorem ext_call {f : FuncId} {args : Array Value} {s : Ext w} {v : Value} {R : Ending → World → Prop} (h : Calls P f args s.1 R) (hR : ∀ e w', R e w' → e = .returned v ∧ Step (fun _ => False) s.1 w') :
    Calls P f args s.1 fun e w'' => e = .returned v ∧ ∃ s : Ext w, w'' = s.1 :=
  h.mono fun e w' hr => ⟨(hR e w' hr).1, ⟨w', s.2.tr (hR e w' hr).2⟩, rfl⟩
/-- A whole load in a region that draws; the class: worlds that keep the cells. -/
theorem wq_load {C : World → Prop} {ops : Array Oper} {rest : List Oper} {o : Oper} {a : Act} {Q : Act → Prop} (hw : Region.wanted o (yielded ops a.tmps) = true) (ty : TypeId) (x : Operand) (ho : o.op = .load ty x)
    (g off : Nat) (hx : a.eval x = .pointer (some ⟨g, off, none⟩)) (xs : List Value) (d : TypeDesc) (hu : P.underlying ty = some d) (hd : (match d with | .struct _ | .array _ _ => true | _ => false) = true) (hi : (P.info? ty).map (·.size) = some xs.length)
    (h : ∀ w', C w' → Cells w' g off xs) (hk : wpQuiet P ops C Q rest (a.put o.dst (.agg xs.toArray))) : wpQuiet P ops C Q (o :: rest) a := by
  refine BigFrame.wpQuiet_want hw fun K hK => ?_
  refine ⟨.agg xs.toArray, fun w' hw' => ?_, hK _ hk⟩
  unfold Oper.quietAt execOp
  simp only [ho, hx, Instr.loadAt, Instr.sureAddr, Sem.run_bind, Sem.run_pure, Result.andThen_ok, run_loadVar_agg hu hd hi (h w' hw')]
  exact ⟨rfl, rfl⟩
theorem cells_drew {g off : Nat} {xs : List Value} (h : Cells w g off xs) : ∀ w', (∃ n, w' = w.drewN n) → Cells w' g off xs := by
  rintro w' ⟨n, rfl⟩
  exact fun i u hu => by simpa using h i u hu
theorem cells_ext {g off : Nat} {xs : List Value} (h : Cells w g off xs) : ∀ w', (∃ s : Ext w, w' = s.1) → Cells w' g off xs := by
  rintro w' ⟨s, rfl⟩
  exact h.step s.2 fun h => h
theorem cell_ext {p : Addr} {v : Value} (h : w.cell? p = some v) (s : Ext w) : s.1.cell? p = some v := s.2.cell h fun h => h
end

/-- Element k of a slice whose elements are laid out by f. -/
theorem Sl.elem {α : Type} {w : World} {A : Option Addr} {n c sz : Nat} {l : List α} {f : α → List Value} (h : Sl w A n c sz (l.flatMap f)) (hf : ∀ x, (f x).length = sz) {k : Nat} (hk : k < l.length) (hsz : 0 < sz) :
    ∃ b off, A = some ⟨b, off, none⟩ ∧ Cells w b (off + k * sz) (f l[k]) := by
  have key : ∀ (l : List α) (k : Nat) (hk : k < l.length) (i : Nat) (u : Value), (f l[k])[i]? = some u → (l.flatMap f)[k * sz + i]? = some u := by
    intro l
    induction l with
    | nil => intro k hk; simp at hk
    | cons x l ih =>
      intro k hk i u hu
      rw [List.flatMap_cons]
      cases k with
      | zero =>
        have hi : i < (f x).length := (List.getElem?_eq_some_iff.1 hu).1
        rw [Nat.zero_mul, Nat.zero_add, List.getElem?_append_left hi]
        exact hu
      | succ k =>
        rw [List.getElem?_append_right (by rw [hf, Nat.succ_mul]; omega), hf, show (k + 1) * sz + i - sz = k * sz + i by rw [Nat.succ_mul]; omega]
        exact ih k (by simpa using hk) i u hu
  have hne : l.flatMap f ≠ [] := by
    intro e
    have := key l k hk 0 ((f l[k])[0]'(by rw [hf]; exact hsz)) (List.getElem?_eq_getElem _)
    rw [e] at this
    cases this
  obtain ⟨b, off, e, _, hc⟩ := h.rd hne
  exact ⟨b, off, e, fun i u hu => by rw [Nat.add_assoc]; exact hc _ u (key l k hk i u hu)⟩
theorem length_flatMap {α : Type} {sz : Nat} {f : α → List Value} (hf : ∀ x, (f x).length = sz) : ∀ l : List α, (l.flatMap f).length = l.length * sz
  | [] => by simp
  | x :: l => by rw [List.flatMap_cons, List.length_append, hf, length_flatMap hf l, List.length_cons, Nat.succ_mul]; omega
theorem Sl.n_flat {α : Type} {w : World} {A : Option Addr} {n c sz : Nat} {l : List α} {f : α → List Value} (h : Sl w A n c sz (l.flatMap f)) (hf : ∀ x, (f x).length = sz) (hsz : 0 < sz) : n = l.length := by
  have := h.len
  rw [length_flatMap hf] at this
  exact (Nat.eq_of_mul_eq_mul_right hsz this).symm

/-- An id, a key: 32 bytes. -/
abbrev Id := { l : List UInt8 // l.length = 32 }
def idc (x : Id) : List Value := u8s x.1
theorem idc_length (x : Id) : (idc x).length = 32 := by rw [idc, u8s_length, x.2]
theorem idc_one (x : Id) : ∀ u ∈ idc x, u.oneCell' = true := u8s_one x.1
def idz : Id := ⟨zeros 32, zeros_length 32⟩

theorem run_eql_id {P : Program} {t e : TypeId} {i : TypeInfo} (ht : P.underlying t = some (.array 32 e)) (he : P.underlying e = some (.int .u8)) (hi : P.info? e = some i) (hs : i.size = 1) (x y : Id) (W : World) :
    (binOp .eql t (.agg (idc x).toArray) (.agg (idc y).toArray)).run P W = .ok (.bool (decide (x = y))) W := by
  rw [show decide (x = y) = (x.1 == y.1) by rw [Bool.eq_iff_iff]; simp [Subtype.ext_iff]]
  exact run_eql_arr ht he hi hs x.2 y.2 W
theorem run_neq_id {P : Program} {t e : TypeId} {i : TypeInfo} (ht : P.underlying t = some (.array 32 e)) (he : P.underlying e = some (.int .u8)) (hi : P.info? e = some i) (hs : i.size = 1) (x y : Id) (W : World) :
    (binOp .neq t (.agg (idc x).toArray) (.agg (idc y).toArray)).run P W = .ok (.bool (!decide (x = y))) W := by
  rw [show decide (x = y) = (x.1 == y.1) by rw [Bool.eq_iff_iff]; simp [Subtype.ext_iff]]
  exact run_neq_arr ht he hi hs x.2 y.2 W
end Go.Proofs.Ytcmgjoamfjijhaa
