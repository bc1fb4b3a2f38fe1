/- The laws of single operations over memory as a list of parts. Program independent. -/
import Derived.Test.YtcmgjoamfjijhaaSt
namespace Go.Proofs.Ytcmgjoamfjijhaa
open Go.RowKit
set_option linter.unusedVariables false

/-! ### What is known of types -/
class Siz (P : Program) (ty : TypeId) (n : outParam Nat) : Prop where
  eq : (P.info? ty).map (·.size) = some n
class Agg (P : Program) (ty : TypeId) : Prop where
  eq : ∃ d, P.underlying ty = some d ∧ d.isRow = true
class One (P : Program) (ty : TypeId) : Prop where
  eq : ∃ d, P.underlying ty = some d ∧ d.isRow = false
  siz : (P.info? ty).map (·.size) = some 1
class Zer (P : Program) (ty : TypeId) (zs : outParam (List Value)) : Prop where
  eq : ∃ z, (P.info? ty).map (·.zero) = some (some z) ∧ z.cells = zs.toArray
class Elm (P : Program) (t : TypeId) (e : outParam TypeId) (sz bytes : outParam Nat) : Prop where
  und : P.underlying t = some (.slice e)
  info : ∃ i z, P.info? e = some i ∧ i.zero = some z ∧ i.size = sz ∧ i.bytes = bytes ∧ z.cells.size = sz
  pos : 0 < sz

/-! ### What is known of cells -/
class OneV (v : Value) : Prop where
  cells : v.cells = #[v]
  one : v.oneCell' = true
instance (k : IntKind) (n : Int) : OneV (.int k n) := ⟨rfl, rfl⟩
instance (b : Bool) : OneV (.bool b) := ⟨rfl, rfl⟩
instance (s : ByteArray) : OneV (.string s) := ⟨rfl, rfl⟩
instance (a : Option Addr) : OneV (.pointer a) := ⟨rfl, rfl⟩
instance (a : Option Addr) (n c : Nat) : OneV (.slice a n c) := ⟨rfl, rfl⟩
instance (r : Option Nat) : OneV (.map r) := ⟨rfl, rfl⟩
instance (f : Fn) (a b : Array Value) : OneV (.func f a b) := ⟨rfl, rfl⟩
instance : OneV .nilFunc := ⟨rfl, rfl⟩
instance Row.nil : Row [] 0 := ⟨rfl, by simp, by omega⟩
class Tiny (n : Nat) : Prop where
  le : n ≤ 100000
instance : Tiny 0 := ⟨by omega⟩
theorem Row.mk' {xs : List Value} {n : Nat} (h : xs.length = n) (h1 : ∀ u ∈ xs, u.oneCell' = true) (hn : n ≤ 100000) : Row xs n := ⟨h, h1, hn⟩
instance Row.one1 (a : Value) [ha : OneV a] : Row [a] 1 := Row.mk' rfl (by simp [ha.one]) (by omega)
instance Row.one2 (a b : Value) [ha : OneV a] [hb : OneV b] : Row [a, b] 2 := Row.mk' rfl (by simp [ha.one, hb.one]) (by omega)
instance Row.one3 (a b c : Value) [ha : OneV a] [hb : OneV b] [hc : OneV c] : Row [a, b, c] 3 := Row.mk' rfl (by simp [ha.one, hb.one, hc.one]) (by omega)
instance Row.one4 (a b c d : Value) [ha : OneV a] [hb : OneV b] [hc : OneV c] [hd : OneV d] : Row [a, b, c, d] 4 := Row.mk' rfl (by simp [ha.one, hb.one, hc.one, hd.one]) (by omega)
instance Row.one5 (a b c d e : Value) [ha : OneV a] [hb : OneV b] [hc : OneV c] [hd : OneV d] [he : OneV e] : Row [a, b, c, d, e] 5 := Row.mk' rfl (by simp [ha.one, hb.one, hc.one, hd.one, he.one]) (by omega)
instance Row.one6 (a b c d e f : Value) [ha : OneV a] [hb : OneV b] [hc : OneV c] [hd : OneV d] [he : OneV e] [hf : OneV f] : Row [a, b, c, d, e, f] 6 := Row.mk' rfl (by simp [ha.one, hb.one, hc.one, hd.one, he.one, hf.one]) (by omega)
instance Row.u12 (x : { l : List UInt8 // l.length = 12 }) : Row (u8s x.1) 12 := Row.mk' (by rw [u8s_length, x.2]) (u8s_one _) (by omega)
instance Row.u32 (x : { l : List UInt8 // l.length = 32 }) : Row (u8s x.1) 32 := Row.mk' (by rw [u8s_length, x.2]) (u8s_one _) (by omega)
instance Row.u64 (x : { l : List UInt8 // l.length = 64 }) : Row (u8s x.1) 64 := Row.mk' (by rw [u8s_length, x.2]) (u8s_one _) (by omega)
instance Row.zeros (n : Nat) [h : Tiny n] : Row (u8s (zeros n)) n := Row.mk' (by rw [u8s_length, zeros_length]) (u8s_one _) h.le
instance : Tiny 1 := ⟨by omega⟩
instance : Tiny 2 := ⟨by omega⟩
instance : Tiny 3 := ⟨by omega⟩
instance : Tiny 4 := ⟨by omega⟩
instance : Tiny 5 := ⟨by omega⟩
instance : Tiny 6 := ⟨by omega⟩
instance : Tiny 7 := ⟨by omega⟩
instance : Tiny 8 := ⟨by omega⟩
instance : Tiny 10 := ⟨by omega⟩
instance : Tiny 11 := ⟨by omega⟩
instance : Tiny 12 := ⟨by omega⟩
instance : Tiny 16 := ⟨by omega⟩
instance : Tiny 20 := ⟨by omega⟩
instance : Tiny 24 := ⟨by omega⟩
instance : Tiny 28 := ⟨by omega⟩
instance : Tiny 32 := ⟨by omega⟩
instance : Tiny 40 := ⟨by omega⟩
instance : Tiny 48 := ⟨by omega⟩
instance : Tiny 56 := ⟨by omega⟩
instance : Tiny 64 := ⟨by omega⟩
instance : Tiny 100 := ⟨by omega⟩
instance : Tiny 128 := ⟨by omega⟩
instance Row.rep (n : Nat) (v : Value) [hv : OneV v] [h : Tiny n] : Row (List.replicate n v) n := Row.mk' (by simp) (by intro u hu; rw [List.eq_of_mem_replicate hu]; exact hv.one) h.le

/-- Cell i, so many cells from a place on; the same set. -/
class Cell (xs : List Value) (i : Nat) (v : outParam Value) : Prop where
  eq : xs[i]? = some v
class Part (xs : List Value) (off n : Nat) (ys : outParam (List Value)) : Prop where
  eq : (xs.drop off).take n = ys
  le : off + n ≤ xs.length
class Put1 (xs : List Value) (i : Nat) (v : Value) (xs' : outParam (List Value)) : Prop where
  eq : xs.set i v = xs'
  lt : i < xs.length
class PutN (xs : List Value) (off : Nat) (ys : List Value) (xs' : outParam (List Value)) : Prop where
  eq : xs.take off ++ ys ++ xs.drop (off + ys.length) = xs'
  le : off + ys.length ≤ xs.length
instance Cell.c0 (a : Value) (xs : List Value) : Cell (a :: xs) 0 a := ⟨rfl⟩
instance Cell.c1 (a b : Value) (xs : List Value) : Cell (a :: b :: xs) 1 b := ⟨rfl⟩
instance Cell.c2 (a b c : Value) (xs : List Value) : Cell (a :: b :: c :: xs) 2 c := ⟨rfl⟩
instance Cell.c3 (a b c d : Value) (xs : List Value) : Cell (a :: b :: c :: d :: xs) 3 d := ⟨rfl⟩
instance Cell.c4 (a b c d e : Value) (xs : List Value) : Cell (a :: b :: c :: d :: e :: xs) 4 e := ⟨rfl⟩
instance Cell.c5 (a b c d e f : Value) (xs : List Value) : Cell (a :: b :: c :: d :: e :: f :: xs) 5 f := ⟨rfl⟩
instance Put1.c0 (a v : Value) (xs : List Value) : Put1 (a :: xs) 0 v (v :: xs) := ⟨rfl, by simp⟩
instance Put1.c1 (a b v : Value) (xs : List Value) : Put1 (a :: b :: xs) 1 v (a :: v :: xs) := ⟨rfl, by simp⟩
instance Put1.c2 (a b c v : Value) (xs : List Value) : Put1 (a :: b :: c :: xs) 2 v (a :: b :: v :: xs) := ⟨rfl, by simp⟩
instance Put1.c3 (a b c d v : Value) (xs : List Value) : Put1 (a :: b :: c :: d :: xs) 3 v (a :: b :: c :: v :: xs) := ⟨rfl, by simp⟩
instance Put1.c4 (a b c d e v : Value) (xs : List Value) : Put1 (a :: b :: c :: d :: e :: xs) 4 v (a :: b :: c :: d :: v :: xs) := ⟨rfl, by simp⟩
instance Put1.c5 (a b c d e f v : Value) (xs : List Value) : Put1 (a :: b :: c :: d :: e :: f :: xs) 5 v (a :: b :: c :: d :: e :: v :: xs) := ⟨rfl, by simp⟩
instance (priority := low) Part.all (xs : List Value) (n : Nat) [h : Row xs n] : Part xs 0 n xs := ⟨by rw [List.drop_zero, List.take_of_length_le (by rw [h.len]; exact Nat.le_refl _)], by rw [h.len]; omega⟩
instance (priority := low) PutN.all (xs ys : List Value) (n : Nat) [h : Row xs n] [k : Row ys n] : PutN xs 0 ys ys := ⟨by rw [List.take_zero, List.nil_append, List.drop_eq_nil_of_le (by rw [h.len, k.len]; omega), List.append_nil], by rw [h.len, k.len]; omega⟩

/-! ### An operation, run -/
def Runs (P : Program) (ρ : Operand → Value) (o : Oper) (w : World) (R : Value → World → Prop) : Prop :=
  (∀ c, o.op ≠ .defer c) ∧ o.about P w ρ = none ∧ ∃ v w', ((execOp ρ o).run P w = .ok (.value v) w' ∨ ((execOp ρ o).run P w = .ok .skip w' ∧ v = undef)) ∧ R v w'
/-- An operation that makes a value and leaves the world alone. -/
def Reads (P : Program) (ρ : Operand → Value) (o : Oper) (w : World) (v : Value) : Prop :=
  (∀ c, o.op ≠ .defer c) ∧ o.about P w ρ = none ∧ (execOp ρ o).run P w = .ok (.value v) w
theorem wl_reads {P : Program} {ops : Array Oper} {rest : List Oper} {o : Oper} {a : Act} {w : World} {Q : Exit → Act → World → Prop} {v : Value} (hgd : Region.wanted o (yielded ops a.tmps) = true) (hr : Reads P a.eval o w v)
    (hk : wpList P ops Q rest (a.put o.dst v) w) : wpList P ops Q (o :: rest) a w := wl_op hgd hr.2.2 hk
theorem wi_reads {F : Fence} {fn : Nat} {P : Program} {ops : Array Oper} {rest : List Oper} {o : Oper} {a : Act} {w : World} {Q : Exit → Act → World → Prop} {v : Value} (hgd : Region.wanted o (yielded ops a.tmps) = true) (hr : Reads P a.eval o w v)
    (hk : wpListIn F fn P ops Q rest (a.put o.dst v) w) : wpListIn F fn P ops Q (o :: rest) a w := wi_op hgd hr.1 hr.2.1 hr.2.2 hk
theorem op_reads (d : Option Tmp) {P : Program} {o : Oper} {a : Act} {w : World} {K : Act → World → Prop} {Q : Exit → Act → World → Prop} {v : Value} (hd : o.dst = d) (hr : Reads P a.eval o w v) (hk : K (a.put d v) w) : o.wp P a w K Q := by subst hd; exact op_wp_value hr.2.2 hk
theorem wl_runs {P : Program} {ops : Array Oper} {rest : List Oper} {o : Oper} {a : Act} {w : World} {Q : Exit → Act → World → Prop} {R : Value → World → Prop} (hgd : Region.wanted o (yielded ops a.tmps) = true) (hr : Runs P a.eval o w R)
    (hk : ∀ v w', R v w' → wpList P ops Q rest (a.put o.dst v) w') : wpList P ops Q (o :: rest) a w := by
  obtain ⟨_, _, v, w', h | ⟨h, rfl⟩, hR⟩ := hr
  · exact wl_op hgd h (hk _ _ hR)
  · exact wl_skip hgd h (hk _ _ hR)
theorem wi_runs {F : Fence} {fn : Nat} {P : Program} {ops : Array Oper} {rest : List Oper} {o : Oper} {a : Act} {w : World} {Q : Exit → Act → World → Prop} {R : Value → World → Prop} (hgd : Region.wanted o (yielded ops a.tmps) = true) (hr : Runs P a.eval o w R)
    (hk : ∀ v w', R v w' → wpListIn F fn P ops Q rest (a.put o.dst v) w') : wpListIn F fn P ops Q (o :: rest) a w := by
  obtain ⟨h1, h2, v, w', h | ⟨h, rfl⟩, hR⟩ := hr
  · exact wi_op hgd h1 h2 h (hk _ _ hR)
  · exact wi_skip hgd h1 h2 h (hk _ _ hR)
theorem op_runs (d : Option Tmp) {P : Program} {o : Oper} {a : Act} {w : World} {K : Act → World → Prop} {Q : Exit → Act → World → Prop} {R : Value → World → Prop} (hd : o.dst = d) (hr : Runs P a.eval o w R) (hk : ∀ v w', R v w' → K (a.put d v) w') : o.wp P a w K Q := by
  subst hd
  obtain ⟨_, _, v, w', h | ⟨h, rfl⟩, hR⟩ := hr
  · exact op_wp_value h (hk _ _ hR)
  · unfold Oper.wp
    rw [h]
    exact hk _ _ hR

section
variable {P : Program} {S : Nat → Prop} {w0 w : World} {L F : List Ent} {ρ : Operand → Value} {o : Oper}

theorem ex_alloc (h : St S w0 w L) (ty : TypeId) (ho : o.op = .alloc ty) {zs : List Value} [k : Zer P ty zs] :
    Runs P ρ o w fun v w' => ∃ g, v = .pointer (some ⟨g, 0, none⟩) ∧ St S w0 w' (eBlk g ty zs :: L) := by
  obtain ⟨z, hz, hc⟩ := k.eq
  have hb : Blk (w.alloc (.cells z.cells ty)) w.heap.size ty zs.toArray := by rw [← hc]; exact Blk.new w ty z.cells
  refine ⟨by simp [ho], by simp [Oper.about, ho], _, _, .inl ?_, w.heap.size, rfl, h.add ((Step.refl _ _).alloc _) (eBlk w.heap.size ty zs) hb (fun k hk => Nat.le_of_eq (show k = w.heap.size from hk).symm) (fun _ hk => hk)⟩
  unfold execOp
  simp only [ho, Sem.run_bind, Sem.run_pure, Result.andThen_ok, run_alloc_var hz]

theorem ex_box (h : St S w0 w L) (ty : TypeId) (x : Operand) (ho : o.op = .box ty x) (xs : List Value) (hx : ρ x = .agg xs.toArray) :
    Runs P ρ o w fun v w' => ∃ g, v = .pointer (some ⟨g, 0, none⟩) ∧ St S w0 w' (eBlk g ty xs :: L) := by
  have hb : Blk (w.alloc (.cells xs.toArray ty)) w.heap.size ty xs.toArray := Blk.new w ty _
  refine ⟨by simp [ho], by simp [Oper.about, ho], _, _, .inl ?_, w.heap.size, rfl, h.add ((Step.refl _ _).alloc _) (eBlk w.heap.size ty xs) hb (fun k hk => Nat.le_of_eq (show k = w.heap.size from hk).symm) (fun _ hk => hk)⟩
  unfold execOp
  simp only [ho, hx, Instr.box, newVar, newRow, Sem.run_bind, Sem.run_pure, Result.andThen_ok, run_newObj, Value.cells]
  rfl
theorem ex_box1 (h : St S w0 w L) (ty : TypeId) (x : Operand) (ho : o.op = .box ty x) (u : Value) (hx : ρ x = u) [k : OneV u] :
    Runs P ρ o w fun v w' => ∃ g, v = .pointer (some ⟨g, 0, none⟩) ∧ St S w0 w' (eBlk g ty [u] :: L) := by
  have hb : Blk (w.alloc (.cells #[u] ty)) w.heap.size ty [u].toArray := Blk.new w ty _
  refine ⟨by simp [ho], by simp [Oper.about, ho], _, _, .inl ?_, w.heap.size, rfl, h.add ((Step.refl _ _).alloc _) (eBlk w.heap.size ty [u]) hb (fun k hk => Nat.le_of_eq (show k = w.heap.size from hk).symm) (fun _ hk => hk)⟩
  unfold execOp
  simp only [ho, hx, Instr.box, newVar, newRow, Sem.run_bind, Sem.run_pure, Result.andThen_ok, run_newObj, k.cells]
  rfl

theorem ex_load (h : St S w0 w L) (ty : TypeId) (x : Operand) (ho : o.op = .load ty x) (g off : Nat) (hx : ρ x = .pointer (some ⟨g, off, none⟩)) {n : Nat} {t : TypeId} {xs ys : List Value}
    [ka : Agg P ty] [ks : Siz P ty n] [kb : SlotB L g t xs F] [kp : Part xs off n ys] :
    Reads P ρ o w (.agg ys.toArray) := by
  have hb := h.blk g (k := kb)
  obtain ⟨d, hd, hr⟩ := ka.eq
  have hl : ys.length = n := by
    have := kp.le
    rw [← kp.eq, List.length_take, List.length_drop]
    omega
  have hc : Cells w g off ys := hb.part (by rw [hl]; exact kp.eq)
  refine ⟨by simp [ho], by simp [Oper.about, ho], ?_⟩
  unfold execOp
  simp only [ho, hx, Instr.loadAt, Instr.sureAddr, Sem.run_bind, Sem.run_pure, Result.andThen_ok, run_loadVar_mid w g off ty ys d hc hd hr (by rw [ks.eq, hl])]

/-- A load of cells that stand wherever. -/
theorem ex_load_at (ty : TypeId) (x : Operand) (ho : o.op = .load ty x) (g off : Nat) (hx : ρ x = .pointer (some ⟨g, off, none⟩)) {n : Nat} (ys : List Value) [ka : Agg P ty] [ks : Siz P ty n] (hl : ys.length = n) (hc : Cells w g off ys) :
    Reads P ρ o w (.agg ys.toArray) := by
  obtain ⟨d, hd, hr⟩ := ka.eq
  refine ⟨by simp [ho], by simp [Oper.about, ho], ?_⟩
  unfold execOp
  simp only [ho, hx, Instr.loadAt, Instr.sureAddr, Sem.run_bind, Sem.run_pure, Result.andThen_ok, run_loadVar_mid w g off ty ys d hc hd hr (by rw [ks.eq, hl])]

theorem ex_load1_at (ty : TypeId) (x : Operand) (ho : o.op = .load ty x) (g off : Nat) (hx : ρ x = .pointer (some ⟨g, off, none⟩)) [ka : One P ty] (u : Value) (hc : w.cell? ⟨g, off, none⟩ = some u) :
    Reads P ρ o w (u) := by
  obtain ⟨d, hd, hr⟩ := ka.eq
  refine ⟨by simp [ho], by simp [Oper.about, ho], ?_⟩
  unfold execOp
  simp only [ho, hx, Instr.loadAt, Instr.sureAddr, Sem.run_bind, Sem.run_pure, Result.andThen_ok, load_one hd hr hc]
theorem St.cellAt (h : St S w0 w L) (g i : Nat) {t : TypeId} {xs : List Value} {v : Value} [kb : SlotB L g t xs F] (hv : xs[i]? = some v) : w.cell? ⟨g, i, none⟩ = some v := by
  have hb := h.blk g (k := kb)
  rw [hb.cell, List.getElem?_toArray]
  exact hv
theorem ex_load1 (h : St S w0 w L) (ty : TypeId) (x : Operand) (ho : o.op = .load ty x) (g off : Nat) (hx : ρ x = .pointer (some ⟨g, off, none⟩)) {t : TypeId} {xs : List Value} {u : Value}
    [ka : One P ty] [kb : SlotB L g t xs F] [kc : Cell xs off u] : Reads P ρ o w (u) :=
  ex_load1_at ty x ho g off hx u (h.cellAt g off (kb := kb) kc.eq)

theorem ex_store (h : St S w0 w L) (ty : TypeId) (x y : Operand) (ho : o.op = .store ty x y) (g off : Nat) (hx : ρ x = .pointer (some ⟨g, off, none⟩)) (ys : List Value) (hy : ρ y = .agg ys.toArray) {n : Nat} {t : TypeId} {xs xs' : List Value}
    [ks : Siz P ty n] [kr : Row ys n] [kb : SlotB L g t xs F] [kp : PutN xs off ys xs'] :
    Runs P ρ o w fun v w' => v = undef ∧ St S w0 w' (eBlk g t xs' :: F) := by
  have hb := h.blk g (k := kb)
  obtain ⟨w', hrun, hb', hs', _⟩ := op_store (P := P) w ty x y ho g off hx (.agg ys.toArray) ys hy rfl (by rw [ks.eq, kr.len]) kr.one t _ hb (by simpa using kp.le)
  have hb2 : Blk w' g t xs'.toArray := by
    have e := kp.eq
    simp only [List.append_assoc] at e
    simpa [e] using hb'
  exact ⟨by simp [ho], by simp [Oper.about, ho], _, _, .inr ⟨hrun, rfl⟩, rfl, h.set (k := ⟨kb.perm⟩) (eBlk g t xs') hs' hb2 (fun k hk => .inl hk) (fun _ hk => hk)⟩

/-- One cell stored, at whatever place. -/
theorem ex_store1_at (h : St S w0 w L) (ty : TypeId) (x y : Operand) (ho : o.op = .store ty x y) (g off : Nat) (hx : ρ x = .pointer (some ⟨g, off, none⟩)) (u : Value) (hy : ρ y = u) {t : TypeId} {xs : List Value}
    [ks : One P ty] [kv : OneV u] [kb : SlotB L g t xs F] (hlt : off < xs.length) :
    Runs P ρ o w fun v w' => v = undef ∧ St S w0 w' (eBlk g t (xs.set off u) :: F) := by
  have hb := h.blk g (k := kb)
  obtain ⟨w', hrun, hb', hs', _⟩ := op_store (P := P) w ty x y ho g off hx u [u] hy kv.cells ks.siz (by simp [kv.one]) t _ hb (by simp; omega)
  have hb2 : Blk w' g t (xs.set off u).toArray := by
    rw [List.set_eq_take_append_cons_drop, if_pos hlt]
    simpa using hb'
  exact ⟨by simp [ho], by simp [Oper.about, ho], _, _, .inr ⟨hrun, rfl⟩, rfl, h.set (k := ⟨kb.perm⟩) (eBlk g t (xs.set off u)) hs' hb2 (fun k hk => .inl hk) (fun _ hk => hk)⟩
theorem ex_store1 (h : St S w0 w L) (ty : TypeId) (x y : Operand) (ho : o.op = .store ty x y) (g off : Nat) (hx : ρ x = .pointer (some ⟨g, off, none⟩)) (u : Value) (hy : ρ y = u) {t : TypeId} {xs xs' : List Value}
    [ks : One P ty] [kv : OneV u] [kb : SlotB L g t xs F] [kp : Put1 xs off u xs'] :
    Runs P ρ o w fun v w' => v = undef ∧ St S w0 w' (eBlk g t xs' :: F) := by
  have := ex_store1_at (P := P) h ty x y ho g off hx u hy (kb := kb) kp.lt
  rwa [kp.eq] at this

/-- append onto a row of one's own. -/
theorem ex_append (h : St S w0 w L) (s x : Operand) (t : TypeId) (ho : o.op = .call { callee := .builtin .append, args := #[s, x], argTypes := #[t, t] }) {e : TypeId} {sz bytes : Nat} [ke : Elm P t e sz bytes]
    (A : Option Addr) {n c : Nat} {xs : List Value} (hs : ρ s = .slice A n c) [ko : SlotO L A e sz n c xs F] (B : Option Addr) (m d : Nat) (hx : ρ x = .slice B m d) {ys : List Value} (hr : Sl w B m d sz ys) (h1 : ∀ u ∈ ys, u.oneCell' = true)
    (h63 : n + m ≤ maxLen) (hbytes : (n + m) * bytes ≤ 140737488355328) :
    Runs P ρ o w fun v w' => ∃ A' c', v = .slice A' (n + m) c' ∧ St S w0 w' (eOwn e sz A' (n + m) c' (xs ++ ys) :: F) := by
  obtain ⟨i, z, hi, hz, hsize, hby, hzs⟩ := ke.info
  have hown := h.row A (k := ko)
  obtain ⟨A', c', w', hrun, h2, h3, h4⟩ := run_append_tl (P := P) (w := w) t t o.type e i z sz bytes ke.und (.inl ke.und) hi hz hsize hby hzs ke.pos A n c xs hown (.slice B m d) m ys hr.len (src_len B m d) (src_cells hr) (src_cells hr.drew) h1 h63 hbytes
  refine ⟨by simp [ho], by simp [Oper.about, ho, resolve, Target.leads], .slice A' (n + m) c', w', .inl ?_, A', c', rfl, h.set (k := ⟨ko.perm⟩) (eOwn e sz A' (n + m) c' (xs ++ ys)) h3 h2 h4 (fun _ hk => hk)⟩
  unfold execOp
  simp only [ho, resolve, invoke, builtin, Sem.run_bind, Sem.run_pure, Result.andThen_ok, List.map_toArray, List.map_cons, List.map_nil, hs, hx, hrun]
/-- append onto nil. -/
theorem ex_append_nil (h : St S w0 w L) (s x : Operand) (t : TypeId) (ho : o.op = .call { callee := .builtin .append, args := #[s, x], argTypes := #[t, t] }) {e : TypeId} {sz bytes : Nat} [ke : Elm P t e sz bytes]
    (hs : ρ s = .slice none 0 0) (B : Option Addr) (m d : Nat) (hx : ρ x = .slice B m d) {ys : List Value} (hr : Sl w B m d sz ys) (h1 : ∀ u ∈ ys, u.oneCell' = true)
    (h63 : m ≤ maxLen) (hbytes : m * bytes ≤ 140737488355328) :
    Runs P ρ o w fun v w' => ∃ A' c', v = .slice A' m c' ∧ St S w0 w' (eOwn e sz A' m c' ys :: L) := by
  obtain ⟨i, z, hi, hz, hsize, hby, hzs⟩ := ke.info
  obtain ⟨A', c', w', hrun, h2, h3, h4⟩ := run_append (P := P) w t o.type e i z sz bytes ke.und hi hz hsize hby hzs ke.pos none 0 0 [] (Own.nil _ _ _) B m d ys hr h1 (by omega) (by simpa using hbytes)
  rw [Nat.zero_add, List.nil_append] at h2
  rw [Nat.zero_add] at hrun
  refine ⟨by simp [ho], by simp [Oper.about, ho, resolve, Target.leads], .slice A' m c', w', .inl ?_, A', c', rfl, h.add (h3.mono fun k _ hk => at_nil hk) (eOwn e sz A' m c' ys) (Own.tl h2) (fun k hk => (h4 k hk).resolve_left at_nil) (fun _ hk => hk)⟩
  unfold execOp
  simp only [ho, resolve, invoke, builtin, Sem.run_bind, Sem.run_pure, Result.andThen_ok, List.map_toArray, List.map_cons, List.map_nil, hs, hx, hrun]
theorem ex_append_str (h : St S w0 w L) (s x : Operand) (t u : TypeId) (ho : o.op = .call { callee := .builtin .append, args := #[s, x], argTypes := #[t, u] }) {e : TypeId} [ke : Elm P t e 1 1] (hu : P.underlying u = some .string)
    (A : Option Addr) {n c : Nat} {xs : List Value} (hs : ρ s = .slice A n c) [ko : SlotO L A e 1 n c xs F] (l : List UInt8) (hx : ρ x = .string (str l)) (h63 : n + l.length ≤ maxLen) (hbytes : n + l.length ≤ 140737488355328) :
    Runs P ρ o w fun v w' => ∃ A' c', v = .slice A' (n + l.length) c' ∧ St S w0 w' (eOwn e 1 A' (n + l.length) c' (xs ++ u8s l) :: F) := by
  obtain ⟨i, z, hi, hz, hsize, hby, hzs⟩ := ke.info
  have hown := h.row A (k := ko)
  obtain ⟨A', c', w', hrun, h2, h3, h4⟩ := run_append_tl (P := P) (w := w) t u o.type e i z 1 1 ke.und (.inr hu) hi hz hsize hby hzs ke.pos A n c xs hown (.string (str l)) l.length (u8s l) (by rw [u8s_length, Nat.mul_one]) (src_str_len l) (src_str_cells l w) (src_str_cells l w.drew) (u8s_one l) h63 (by rw [Nat.mul_one]; exact hbytes)
  refine ⟨by simp [ho], by simp [Oper.about, ho, resolve, Target.leads], .slice A' (n + l.length) c', w', .inl ?_, A', c', rfl, h.set (k := ⟨ko.perm⟩) (eOwn e 1 A' (n + l.length) c' (xs ++ u8s l)) h3 h2 h4 (fun _ hk => hk)⟩
  unfold execOp
  simp only [ho, resolve, invoke, builtin, Sem.run_bind, Sem.run_pure, Result.andThen_ok, List.map_toArray, List.map_cons, List.map_nil, hs, hx, hrun]

/-- make([]T, n). -/
theorem ex_make (h : St S w0 w L) (l c : Operand) (t : TypeId) (ho : o.op = .makeSlice t l c) {e : TypeId} {sz bytes : Nat} [ke : Elm P t e sz bytes] (n : Nat) (hl : ρ l = .int .i64 (n : Int)) (hc : ρ c = .int .i64 (n : Int)) (hb : bytes * n ≤ 281474976710656) (h63 : n ≤ maxLen)
    (zs : List Value) (hz : ∀ z, (P.info? e).map (·.zero) = some (some z) → (madeCells z.cells (n * sz)).toList = zs) :
    Runs P ρ o w fun v w' => ∃ g, v = .slice (some ⟨g, 0, none⟩) n n ∧ St S w0 w' (eOwn e sz (some ⟨g, 0, none⟩) n n zs :: L) := by
  obtain ⟨i, z, hi, hz0, hsize, hby, hzs⟩ := ke.info
  obtain ⟨w', hrun, h2, h3⟩ := run_make_full (P := P) (w := w) w.heap.size t e i z sz ke.und hi hz0 hsize .i64 .i64 n (by rw [hby]; exact hb) h63 (Nat.le_refl _)
  have hown : Own w' e sz (some ⟨w.heap.size, 0, none⟩) n n zs := by
    rw [← hz z (by rw [hi, Option.map_some, hz0])]
    refine ⟨h2.1, ?_⟩
    rcases h2.2 with ⟨h4, _⟩ | ⟨g, cap, cur, h4, _, h5⟩
    · cases h4
    · exact .inr ⟨g, cap, cur, h4, Nat.zero_le _, h5⟩
  refine ⟨by simp [ho], by simp [Oper.about, ho], .slice (some ⟨w.heap.size, 0, none⟩) n n, w', .inl ?_, w.heap.size, rfl, h.add ⟨h3.os, h3.tape, h3.output, h3.size, fun k hk _ => h3.block k hk (by simp)⟩ (eOwn e sz (some ⟨w.heap.size, 0, none⟩) n n zs) (Own.tl hown) (fun k ⟨a, ha, hk⟩ => by cases ha; exact Nat.le_of_eq hk) (fun _ hk => hk)⟩
  unfold execOp
  simp only [ho, hl, hc, hrun, Sem.run_bind, Sem.run_pure, Result.andThen_ok]

/-- string(b). -/
theorem ex_string (x : Operand) (src dst : TypeId) (ho : o.op = .convert src dst x) {e : TypeId} {sz bytes : Nat} [ke : Elm P src e sz bytes] (he : P.underlying e = some (.int .u8)) (hd : P.underlying dst = some .string) (A : Option Addr) (n c : Nat) (hx : ρ x = .slice A n c) {l : List UInt8} (hl : Sl w A n c 1 (u8s l)) :
    Reads P ρ o w (.string (str l)) := by
  refine ⟨by simp [ho], by simp [Oper.about, ho], ?_⟩
  unfold execOp
  simp only [ho, hx, Sem.run_bind, Sem.run_pure, Result.andThen_ok, run_bytes_string0 (P := P) ke.und he hd hl]
end

/-- A slice got anew (not for appending). -/
def eGot (A : Option Addr) (n c sz : Nat) (xs : List Value) : Ent where
  own k := Ft A n k
  rd _ := False
  holds w := 0 < sz ∧ Sl w A n c sz xs
  isC := true
  lt h k hk := by rcases hk with hk | hk; exact h.2.ft_lt h.1 hk; exact hk.elim
  keep h hs hd := ⟨h.1, h.2.step hs (fun k hk => hd k (.inl hk))⟩
  cel e w h k hk o ho := (eSl A n c sz xs).cel rfl (w := w) h k (.inr (hk.resolve_right id)) o ho
instance (priority := high) HasSl.got (A : Option Addr) (n c sz : Nat) (xs : List Value) (L : List Ent) : HasSl (eGot A n c sz xs :: L) A n c sz xs := ⟨fun w h => (h (eGot A n c sz xs) List.mem_cons_self).2⟩
instance NoRd.got (A : Option Addr) (n c sz : Nat) (xs : List Value) (L : List Ent) [h : NoRd L] : NoRd (eGot A n c sz xs :: L) := ⟨fun x hx k hk => by
  rcases List.mem_cons.1 hx with rfl | hx
  · exact hk
  · exact h.no x hx k hk⟩
section
variable {P : Program} {S : Nat → Prop} {w0 w : World} {L F : List Ent} {ρ : Operand → Value} {o : Oper}
/-- []byte(s). -/
theorem ex_bytes (h : St S w0 w L) (x : Operand) (src dst : TypeId) (ho : o.op = .convert src dst x) (hs : P.underlying src = some .string) {e : TypeId} {sz bytes : Nat} [ke : Elm P dst e sz bytes] (he : P.underlying e = some (.int .u8)) (l : List UInt8) (hx : ρ x = .string (str l)) (hl : l.length ≤ maxLen) :
    Runs P ρ o w fun v w' => ∃ g c, v = .slice (some ⟨g, 0, none⟩) l.length c ∧ St S w0 w' (eGot (some ⟨g, 0, none⟩) l.length c 1 (u8s l) :: L) := by
  obtain ⟨c', w', hrun, h1, h2, h3⟩ := run_string_bytes (P := P) (w := w) src dst e l hs ke.und he hl
  refine ⟨by simp [ho], by simp [Oper.about, ho], _, w', .inl ?_, w.heap.size, c', rfl, h.add h2 (eGot (some ⟨w.heap.size, 0, none⟩) l.length c' 1 (u8s l)) ⟨by omega, h1⟩ (fun k hk => by
    obtain ⟨_, a, ha, rfl⟩ := hk
    cases ha
    exact Nat.le_refl _) (fun _ hk => hk)⟩
  unfold execOp
  simp only [ho, hx, Sem.run_bind, Sem.run_pure, Result.andThen_ok, hrun]

theorem ex_build (t : TypeId) (parts : Array (Nat × Operand)) (ho : o.op = .build t parts) (cells : Array Value) (hb : P.built t (parts.map fun (i, x) => (i, ρ x)).toList = some cells) :
    Reads P ρ o w (.agg cells) := by
  refine ⟨by simp [ho], by simp [Oper.about, ho], ?_⟩
  unfold execOp
  simp only [ho, Sem.run_bind, run_build w t _ cells hb, Result.andThen_ok, Sem.run_pure]
/-- The zero of an array or a struct. -/
theorem ex_zero (t : TypeId) (ho : o.op = .build t #[]) (zs : List Value) (hb : P.built t [] = some zs.toArray) :
    Reads P ρ o w (.agg zs.toArray) := by
  refine ⟨by simp [ho], by simp [Oper.about, ho], ?_⟩
  unfold execOp
  simp only [ho, Sem.run_bind, List.map_toArray, List.map_nil, run_build w t _ _ hb, Result.andThen_ok, Sem.run_pure]

/-- What a result's cell holds. -/
theorem St.loadVar (h : St S w0 w L) (ty : TypeId) (g off : Nat) {n : Nat} {t : TypeId} {xs ys : List Value} [ka : Agg P ty] [ks : Siz P ty n] [kb : SlotB L g t xs F] [kp : Part xs off n ys] : (Go.loadVar ty ⟨g, off, none⟩).run P w = .ok (.agg ys.toArray) w := by
  have hb := h.blk g (k := kb)
  obtain ⟨d, hd, hr⟩ := ka.eq
  have hl : ys.length = n := by
    have := kp.le
    rw [← kp.eq, List.length_take, List.length_drop]
    omega
  have hc : Cells w g off ys := hb.part (by rw [hl]; exact kp.eq)
  exact run_loadVar_mid w g off ty ys d hc hd hr (by rw [ks.eq, hl])
theorem St.loadVar1 (h : St S w0 w L) (ty : TypeId) (g off : Nat) {t : TypeId} {xs : List Value} {u : Value} [ka : One P ty] [kb : SlotB L g t xs F] [kc : Cell xs off u] : (Go.loadVar ty ⟨g, off, none⟩).run P w = .ok u w := by
  obtain ⟨d, hd, hr⟩ := ka.eq
  exact load_one hd hr (h.cellAt g off (kb := kb) kc.eq)
end
end Go.Proofs.Ytcmgjoamfjijhaa
