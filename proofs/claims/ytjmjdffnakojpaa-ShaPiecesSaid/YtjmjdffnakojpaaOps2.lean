/- Composite literals over memory as a list of parts; fields and elements of values; copy. Program independent. -/
import Derived.Test.YtjmjdffnakojpaaOps
namespace Go.Proofs.Ytjmjdffnakojpaa
open Go.RowKit
set_option linter.unusedVariables false

theorem fill_fold (off : Nat) : ∀ (ys : List Value) (k : Nat) (cs : Array Value), off + k + ys.length ≤ cs.size →
    ((ys.zipIdx k).foldl (fun (cs : Array Value) (p : Value × Nat) => cs.setIfInBounds (off + p.2) p.1) cs).toList = cs.toList.take (off + k) ++ ys ++ cs.toList.drop (off + k + ys.length)
  | [], k, cs, h => by simp
  | y :: ys, k, cs, h => by
    have hl : off + k < cs.toList.length := by simp at h ⊢; omega
    rw [List.zipIdx_cons, List.foldl_cons, fill_fold off ys (k + 1) _ (by simp at h ⊢; omega), Array.toList_setIfInBounds, List.set_eq_take_append_cons_drop, if_pos hl]
    dsimp only
    have h1 : (cs.toList.take (off + k)).length = off + k := by rw [List.length_take]; omega
    rw [show off + (k + 1) = (cs.toList.take (off + k)).length + 1 by omega, List.take_append, List.take_of_length_le (by omega), Nat.add_sub_cancel_left, List.take_succ_cons, List.take_zero, List.length_cons]
    rw [show (cs.toList.take (off + k)).length + 1 + ys.length = (cs.toList.take (off + k)).length + (ys.length + 1) by omega, List.drop_append, List.drop_eq_nil_of_le (by omega), Nat.add_sub_cancel_left, List.drop_succ_cons, List.drop_drop, List.nil_append]
    rw [show off + k + (ys.length + 1) = off + k + 1 + ys.length by omega]
    simp [List.append_assoc]

/-- One part of a composite literal. -/
theorem fill_one {place : Nat → Option (Nat × Nat)} {xs ys xs' : List Value} {i off n : Nat} {v : Value} {rest : List (Nat × Value)} (hp : place i = some (off, n)) (hv : v.cells = ys.toArray) (hn : ys.length = n) (hx : PutN xs off ys xs') :
    Instr.fill place xs.toArray ((i, v) :: rest) = Instr.fill place xs'.toArray rest := by
  have hle := hx.le
  have hf := fill_fold off ys 0 xs.toArray (by simpa using hle)
  have e : (v.cells.zipIdx.foldl (fun (cs : Array Value) (p : Value × Nat) => cs.setIfInBounds (off + p.2) p.1) xs.toArray) = xs'.toArray := by
    rw [hv]
    apply Array.toList_inj.1
    rw [Array.zipIdx_toArray, List.foldl_toArray]
    simp only [Nat.add_zero] at hf
    rw [hf]
    have := hx.eq
    simpa using this
  have hs : v.cells.size = n := by rw [hv, List.size_toArray, hn]
  simp only [Instr.fill, hp, hs, List.size_toArray]
  rw [if_neg (by simp; omega)]
  exact congrArg (fun cs => Instr.fill place cs rest) e

/-- Where the fields of a struct stand. -/
class Places (P : Program) (t : TypeId) (pl : outParam (List (Nat × Nat))) (zs : outParam (List Value)) : Prop where
  eq : ∀ parts, P.built t parts = Instr.fill (pl.toArray[·]?) zs.toArray parts
class PlaceAt (pl : List (Nat × Nat)) (i : Nat) (off n : outParam Nat) : Prop where
  eq : pl[i]? = some (off, n)
instance (a b : Nat) (l : List (Nat × Nat)) : PlaceAt ((a, b) :: l) 0 a b := ⟨rfl⟩
instance (a b : Nat) (x0 : Nat × Nat) (l : List (Nat × Nat)) : PlaceAt (x0 :: (a, b) :: l) 1 a b := ⟨rfl⟩
instance (a b : Nat) (x0 x1 : Nat × Nat) (l : List (Nat × Nat)) : PlaceAt (x0 :: x1 :: (a, b) :: l) 2 a b := ⟨rfl⟩
instance (a b : Nat) (x0 x1 x2 : Nat × Nat) (l : List (Nat × Nat)) : PlaceAt (x0 :: x1 :: x2 :: (a, b) :: l) 3 a b := ⟨rfl⟩
instance (a b : Nat) (x0 x1 x2 x3 : Nat × Nat) (l : List (Nat × Nat)) : PlaceAt (x0 :: x1 :: x2 :: x3 :: (a, b) :: l) 4 a b := ⟨rfl⟩
instance (a b : Nat) (x0 x1 x2 x3 x4 : Nat × Nat) (l : List (Nat × Nat)) : PlaceAt (x0 :: x1 :: x2 :: x3 :: x4 :: (a, b) :: l) 5 a b := ⟨rfl⟩
instance (a b : Nat) (x0 x1 x2 x3 x4 x5 : Nat × Nat) (l : List (Nat × Nat)) : PlaceAt (x0 :: x1 :: x2 :: x3 :: x4 :: x5 :: (a, b) :: l) 6 a b := ⟨rfl⟩
instance (a b : Nat) (x0 x1 x2 x3 x4 x5 x6 : Nat × Nat) (l : List (Nat × Nat)) : PlaceAt (x0 :: x1 :: x2 :: x3 :: x4 :: x5 :: x6 :: (a, b) :: l) 7 a b := ⟨rfl⟩
/-- The cells behind the parts. -/
class FillTo (pl : List (Nat × Nat)) (xs : List Value) (parts : List (Nat × Value)) (xs' : outParam (List Value)) : Prop where
  eq : Instr.fill (pl.toArray[·]?) xs.toArray parts = some xs'.toArray
instance FillTo.nil (pl : List (Nat × Nat)) (xs : List Value) : FillTo pl xs [] xs := ⟨rfl⟩
instance FillTo.agg (pl : List (Nat × Nat)) (xs ys xs1 xs2 : List Value) (i off n : Nat) (rest : List (Nat × Value)) [hp : PlaceAt pl i off n] [hr : Row ys n] [hx : PutN xs off ys xs1] [hk : FillTo pl xs1 rest xs2] : FillTo pl xs ((i, .agg ys.toArray) :: rest) xs2 :=
  ⟨(fill_one (ys := ys) (by simpa using hp.eq) rfl hr.len hx).trans hk.eq⟩
theorem PutN.of1 {xs xs' : List Value} {i : Nat} {v : Value} (h : Put1 xs i v xs') : PutN xs i [v] xs' :=
  ⟨by rw [← h.eq, List.set_eq_take_append_cons_drop, if_pos h.lt]; simp, by have := h.lt; simp; omega⟩
instance FillTo.one (pl : List (Nat × Nat)) (xs xs1 xs2 : List Value) (v : Value) (i off : Nat) (rest : List (Nat × Value)) [hp : PlaceAt pl i off 1] [hr : OneV v] [hx : Put1 xs off v xs1] [hk : FillTo pl xs1 rest xs2] : FillTo pl xs ((i, v) :: rest) xs2 :=
  ⟨(fill_one (ys := [v]) (by simpa using hp.eq) hr.cells rfl (.of1 hx)).trans hk.eq⟩

section
variable {P : Program} {S : Nat → Prop} {w0 w : World} {L F : List Ent} {ρ : Operand → Value} {o : Oper}
/-- T{..}: a struct's literal. -/
theorem ex_lit (t : TypeId) (parts : Array (Nat × Operand)) (ho : o.op = .build t parts) (ps : List (Nat × Value)) (hp : parts.toList.map (fun p => (p.1, ρ p.2)) = ps) {pl : List (Nat × Nat)} {zs xs : List Value} [kp : Places P t pl zs] [kf : FillTo pl zs ps xs] :
    Reads P ρ o w (.agg xs.toArray) :=
  ex_build t parts ho xs.toArray (by rw [show (parts.map fun (i, x) => (i, ρ x)).toList = ps by rw [← hp]; simp, kp.eq, kf.eq])

theorem range_size (z : Array Value) (n : Nat) : ((Array.range n).map (z[· % z.size]!)).size = n := by simp
theorem row_split {α : Type} {sz : Nat} (f : α → List Value) (hf : ∀ x, (f x).length = sz) (l : List α) : (l.flatMap f).length = l.length * sz := length_flatMap hf l
/-- The cells of a literal's parts, laid one behind the other. -/
theorem fill_row {sz : Nat} (hsz : 0 < sz) : ∀ (vs : List (Value × List Value)) (k : Nat) (done left : List Value), (∀ p ∈ vs, p.1.cells = p.2.toArray ∧ p.2.length = sz) → done.length = k * sz → left.length = vs.length * sz →
    Instr.fill (fun i => some (i * sz, sz)) (done ++ left).toArray ((vs.zipIdx k).map fun p => (p.2, p.1.1)) = some (done ++ vs.flatMap (·.2)).toArray
  | [], k, done, left, _, _, hl => by
    have : left = [] := List.eq_nil_of_length_eq_zero (by simpa using hl)
    simp [this, Instr.fill]
  | p :: vs, k, done, left, hv, hd, hl => by
    obtain ⟨hp, hp2⟩ := hv p List.mem_cons_self
    rw [List.length_cons, Nat.succ_mul] at hl
    have hx : PutN (done ++ left) (k * sz) p.2 (done ++ p.2 ++ left.drop sz) := ⟨by
      rw [List.take_left' hd, ← hd, List.drop_append, List.drop_eq_nil_of_le (by omega), Nat.add_sub_cancel_left, hp2, List.nil_append], by rw [List.length_append, hd, hp2]; omega⟩
    rw [List.zipIdx_cons, List.map_cons, fill_one (ys := p.2) rfl hp hp2 hx, fill_row hsz vs (k + 1) (done ++ p.2) (left.drop sz) (fun q hq => hv q (List.mem_cons_of_mem _ hq)) (by rw [List.length_append, hd, hp2, Nat.succ_mul]) (by rw [List.length_drop]; omega)]
    simp
/-- []T{..}, all of its elements. -/
theorem ex_sliceN (h : St S w0 w L) (t : TypeId) (len : Nat) (parts : Array (Nat × Operand)) (ho : o.op = .buildSlice t len parts) {e : TypeId} {sz bytes : Nat} [ke : Elm P t e sz bytes] (vs : List (Value × List Value))
    (hp : (parts.map fun (i, x) => (i, ρ x)).toList = (vs.zipIdx 0).map fun p => (p.2, p.1.1)) (hl : vs.length = len) (hv : ∀ p ∈ vs, p.1.cells = p.2.toArray ∧ p.2.length = sz) (hpos : 0 < len) (hsm : len * sz ≤ 16777216) :
    Runs P ρ o w fun v w' => ∃ g, v = .slice (some ⟨g, 0, none⟩) len len ∧ St S w0 w' (eBlk g e (vs.flatMap (·.2)) :: L) := by
  obtain ⟨i, z, hi, hz, hsize, hby, hzs⟩ := ke.info
  have hsz := ke.pos
  have hf := fill_row hsz vs 0 [] ((Array.range (len * sz)).map (z.cells[· % z.cells.size]!)).toList hv (by simp) (by simp [hl])
  rw [List.nil_append, List.nil_append, Array.toArray_toList, ← hp] at hf
  generalize hx : vs.flatMap (·.2) = xs at hf ⊢
  have hb : Blk (w.alloc (.cells xs.toArray e)) w.heap.size e xs.toArray := Blk.new w e _
  have hm := Nat.mul_pos hpos hsz
  refine ⟨by simp [ho], by simp [Oper.about, ho], .slice (some ⟨w.heap.size, 0, none⟩) len len, w.alloc (.cells xs.toArray e), .inl ?_, w.heap.size, rfl, h.add ((Step.refl _ _).alloc _) (eBlk w.heap.size e xs) hb (fun k hk => Nat.le_of_eq (show k = w.heap.size from hk).symm) (fun _ hk => hk)⟩
  unfold execOp
  simp only [ho, Sem.run_bind, run_buildSlice w t e len _ xs.toArray i z ke.und hi hz (by rw [hsize]; omega) (by rw [hsize]; omega) (by rw [hsize]; exact hf), Result.andThen_ok, Sem.run_pure]
/-- []T{x}. -/
theorem ex_slice1 (h : St S w0 w L) (t : TypeId) (x : Operand) (ho : o.op = .buildSlice t 1 #[(0, x)]) {e : TypeId} {sz bytes : Nat} [ke : Elm P t e sz bytes] (xs : List Value) (hx : ρ x = .agg xs.toArray) [kr : Row xs sz] :
    Runs P ρ o w fun v w' => ∃ g, v = .slice (some ⟨g, 0, none⟩) 1 1 ∧ St S w0 w' (eBlk g e xs :: L) := by
  have h := ex_sliceN (P := P) (ρ := ρ) h t 1 #[(0, x)] ho [(.agg xs.toArray, xs)] (by simp [hx]) rfl (by simp [Value.cells, kr.len]) (by omega) (by have := kr.small; omega)
  simpa using h
/-- []T{x}, x of one cell. -/
theorem ex_slice1v (h : St S w0 w L) (t : TypeId) (x : Operand) (ho : o.op = .buildSlice t 1 #[(0, x)]) {e : TypeId} {bytes : Nat} [ke : Elm P t e 1 bytes] (u : Value) (hx : ρ x = u) [kr : OneV u] :
    Runs P ρ o w fun v w' => ∃ g, v = .slice (some ⟨g, 0, none⟩) 1 1 ∧ St S w0 w' (eBlk g e [u] :: L) := by
  have h := ex_sliceN (P := P) (ρ := ρ) h t 1 #[(0, x)] ho [(u, [u])] (by simp [hx]) rfl (by simp [kr.cells]) (by omega) (by omega)
  simpa using h
theorem ex_store1i (h : St S w0 w L) (ty : TypeId) (x y : Operand) (ho : o.op = .store ty x y) (g off : Nat) (hx : ρ x = .pointer (some ⟨g, off, none⟩)) (k : IntKind) (i : Int) (hy : ρ y = .int k i) {t : TypeId} {xs xs' : List Value}
    [ks : One P ty] [kb : SlotB L g t xs F] [kp : Put1 xs off (.int k i) xs'] : Runs P ρ o w fun v w' => v = undef ∧ St S w0 w' (eBlk g t xs' :: F) := ex_store1 (P := P) h ty x y ho g off hx _ hy
theorem ex_box1i (h : St S w0 w L) (ty : TypeId) (x : Operand) (ho : o.op = .box ty x) (k : IntKind) (i : Int) (hx : ρ x = .int k i) : Runs P ρ o w fun v w' => ∃ g, v = .pointer (some ⟨g, 0, none⟩) ∧ St S w0 w' (eBlk g ty [.int k i] :: L) := ex_box1 (P := P) h ty x ho _ hx
theorem ex_slice1i (h : St S w0 w L) (t : TypeId) (x : Operand) (ho : o.op = .buildSlice t 1 #[(0, x)]) {e : TypeId} {bytes : Nat} [ke : Elm P t e 1 bytes] (k : IntKind) (i : Int) (hx : ρ x = .int k i) : Runs P ρ o w fun v w' => ∃ g, v = .slice (some ⟨g, 0, none⟩) 1 1 ∧ St S w0 w' (eBlk g e [.int k i] :: L) := ex_slice1v (P := P) h t x ho _ hx
theorem ex_store1s (h : St S w0 w L) (ty : TypeId) (x y : Operand) (ho : o.op = .store ty x y) (g off : Nat) (hx : ρ x = .pointer (some ⟨g, off, none⟩)) (B : Option Addr) (m d : Nat) (hy : ρ y = .slice B m d) {t : TypeId} {xs xs' : List Value}
    [ks : One P ty] [kb : SlotB L g t xs F] [kp : Put1 xs off (.slice B m d) xs'] : Runs P ρ o w fun v w' => v = undef ∧ St S w0 w' (eBlk g t xs' :: F) := ex_store1 (P := P) h ty x y ho g off hx _ hy
theorem ex_box1s (h : St S w0 w L) (ty : TypeId) (x : Operand) (ho : o.op = .box ty x) (B : Option Addr) (m d : Nat) (hx : ρ x = .slice B m d) : Runs P ρ o w fun v w' => ∃ g, v = .pointer (some ⟨g, 0, none⟩) ∧ St S w0 w' (eBlk g ty [.slice B m d] :: L) := ex_box1 (P := P) h ty x ho _ hx
theorem ex_slice1s (h : St S w0 w L) (t : TypeId) (x : Operand) (ho : o.op = .buildSlice t 1 #[(0, x)]) {e : TypeId} {bytes : Nat} [ke : Elm P t e 1 bytes] (B : Option Addr) (m d : Nat) (hx : ρ x = .slice B m d) : Runs P ρ o w fun v w' => ∃ g, v = .slice (some ⟨g, 0, none⟩) 1 1 ∧ St S w0 w' (eBlk g e [.slice B m d] :: L) := ex_slice1v (P := P) h t x ho _ hx
theorem ex_store1b (h : St S w0 w L) (ty : TypeId) (x y : Operand) (ho : o.op = .store ty x y) (g off : Nat) (hx : ρ x = .pointer (some ⟨g, off, none⟩)) (b : Bool) (hy : ρ y = .bool b) {t : TypeId} {xs xs' : List Value}
    [ks : One P ty] [kb : SlotB L g t xs F] [kp : Put1 xs off (.bool b) xs'] : Runs P ρ o w fun v w' => v = undef ∧ St S w0 w' (eBlk g t xs' :: F) := ex_store1 (P := P) h ty x y ho g off hx _ hy
theorem ex_box1b (h : St S w0 w L) (ty : TypeId) (x : Operand) (ho : o.op = .box ty x) (b : Bool) (hx : ρ x = .bool b) : Runs P ρ o w fun v w' => ∃ g, v = .pointer (some ⟨g, 0, none⟩) ∧ St S w0 w' (eBlk g ty [.bool b] :: L) := ex_box1 (P := P) h ty x ho _ hx
theorem ex_slice1b (h : St S w0 w L) (t : TypeId) (x : Operand) (ho : o.op = .buildSlice t 1 #[(0, x)]) {e : TypeId} {bytes : Nat} [ke : Elm P t e 1 bytes] (b : Bool) (hx : ρ x = .bool b) : Runs P ρ o w fun v w' => ∃ g, v = .slice (some ⟨g, 0, none⟩) 1 1 ∧ St S w0 w' (eBlk g e [.bool b] :: L) := ex_slice1v (P := P) h t x ho _ hx
theorem ex_store1t (h : St S w0 w L) (ty : TypeId) (x y : Operand) (ho : o.op = .store ty x y) (g off : Nat) (hx : ρ x = .pointer (some ⟨g, off, none⟩)) (s : ByteArray) (hy : ρ y = .string s) {t : TypeId} {xs xs' : List Value}
    [ks : One P ty] [kb : SlotB L g t xs F] [kp : Put1 xs off (.string s) xs'] : Runs P ρ o w fun v w' => v = undef ∧ St S w0 w' (eBlk g t xs' :: F) := ex_store1 (P := P) h ty x y ho g off hx _ hy
theorem ex_box1t (h : St S w0 w L) (ty : TypeId) (x : Operand) (ho : o.op = .box ty x) (s : ByteArray) (hx : ρ x = .string s) : Runs P ρ o w fun v w' => ∃ g, v = .pointer (some ⟨g, 0, none⟩) ∧ St S w0 w' (eBlk g ty [.string s] :: L) := ex_box1 (P := P) h ty x ho _ hx
theorem ex_slice1t (h : St S w0 w L) (t : TypeId) (x : Operand) (ho : o.op = .buildSlice t 1 #[(0, x)]) {e : TypeId} {bytes : Nat} [ke : Elm P t e 1 bytes] (s : ByteArray) (hx : ρ x = .string s) : Runs P ρ o w fun v w' => ∃ g, v = .slice (some ⟨g, 0, none⟩) 1 1 ∧ St S w0 w' (eBlk g e [.string s] :: L) := ex_slice1v (P := P) h t x ho _ hx
theorem ex_store1p (h : St S w0 w L) (ty : TypeId) (x y : Operand) (ho : o.op = .store ty x y) (g off : Nat) (hx : ρ x = .pointer (some ⟨g, off, none⟩)) (q : Option Addr) (hy : ρ y = .pointer q) {t : TypeId} {xs xs' : List Value}
    [ks : One P ty] [kb : SlotB L g t xs F] [kp : Put1 xs off (.pointer q) xs'] : Runs P ρ o w fun v w' => v = undef ∧ St S w0 w' (eBlk g t xs' :: F) := ex_store1 (P := P) h ty x y ho g off hx _ hy
theorem ex_box1p (h : St S w0 w L) (ty : TypeId) (x : Operand) (ho : o.op = .box ty x) (q : Option Addr) (hx : ρ x = .pointer q) : Runs P ρ o w fun v w' => ∃ g, v = .pointer (some ⟨g, 0, none⟩) ∧ St S w0 w' (eBlk g ty [.pointer q] :: L) := ex_box1 (P := P) h ty x ho _ hx
theorem ex_slice1p (h : St S w0 w L) (t : TypeId) (x : Operand) (ho : o.op = .buildSlice t 1 #[(0, x)]) {e : TypeId} {bytes : Nat} [ke : Elm P t e 1 bytes] (q : Option Addr) (hx : ρ x = .pointer q) : Runs P ρ o w fun v w' => ∃ g, v = .slice (some ⟨g, 0, none⟩) 1 1 ∧ St S w0 w' (eBlk g e [.pointer q] :: L) := ex_slice1v (P := P) h t x ho _ hx
theorem ex_store1m (h : St S w0 w L) (ty : TypeId) (x y : Operand) (ho : o.op = .store ty x y) (g off : Nat) (hx : ρ x = .pointer (some ⟨g, off, none⟩)) (r : Option Nat) (hy : ρ y = .map r) {t : TypeId} {xs xs' : List Value}
    [ks : One P ty] [kb : SlotB L g t xs F] [kp : Put1 xs off (.map r) xs'] : Runs P ρ o w fun v w' => v = undef ∧ St S w0 w' (eBlk g t xs' :: F) := ex_store1 (P := P) h ty x y ho g off hx _ hy
theorem ex_box1m (h : St S w0 w L) (ty : TypeId) (x : Operand) (ho : o.op = .box ty x) (r : Option Nat) (hx : ρ x = .map r) : Runs P ρ o w fun v w' => ∃ g, v = .pointer (some ⟨g, 0, none⟩) ∧ St S w0 w' (eBlk g ty [.map r] :: L) := ex_box1 (P := P) h ty x ho _ hx
theorem ex_slice1m (h : St S w0 w L) (t : TypeId) (x : Operand) (ho : o.op = .buildSlice t 1 #[(0, x)]) {e : TypeId} {bytes : Nat} [ke : Elm P t e 1 bytes] (r : Option Nat) (hx : ρ x = .map r) : Runs P ρ o w fun v w' => ∃ g, v = .slice (some ⟨g, 0, none⟩) 1 1 ∧ St S w0 w' (eBlk g e [.map r] :: L) := ex_slice1v (P := P) h t x ho _ hx
/-- The zero of a struct or an array, as a literal with no parts makes it. -/
class Blt0 (P : Program) (t : TypeId) (zs : outParam (List Value)) : Prop where
  eq : P.built t [] = some zs.toArray
theorem ex_lit0 (t : TypeId) (ho : o.op = .build t #[]) {zs : List Value} [k : Blt0 P t zs] : Reads P ρ o w (.agg zs.toArray) := ex_zero t ho zs k.eq
/-- Arrays of bytes that are held against each other. -/
class Arr8 (P : Program) (t : TypeId) (n : outParam Nat) : Prop where
  eq : ∃ e i, P.underlying t = some (.array n e) ∧ P.underlying e = some (.int .u8) ∧ P.info? e = some i ∧ i.size = 1
  guard : P.eqGuardType P.depth t = false
theorem ex_eq (t : TypeId) (x y : Operand) (t2 : TypeId) (ho : o.op = .binOp .eql t x y t2) (xs ys : List UInt8) (hx : ρ x = .agg (u8s xs).toArray) (hy : ρ y = .agg (u8s ys).toArray) {n : Nat} [k : Arr8 P t n] (hxl : xs.length = n) (hyl : ys.length = n) (b : Bool) (hb : (xs == ys) = b) :
    Reads P ρ o w (.bool b) := by
  obtain ⟨e, i, h1, h2, h3, h4⟩ := k.eq
  refine ⟨by simp [ho], by simp [Oper.about, ho], ?_⟩
  unfold execOp
  simp only [ho, hx, hy, Sem.run_bind, Sem.run_pure, Result.andThen_ok, run_guard_arr (P := P) k.guard .eql x y xs ys w |> fun h => (h : (eqGuard .eql t x y (.agg (u8s xs).toArray) (.agg (u8s ys).toArray)).run P w = .ok () w), run_eql_agg h1 h2 h3 h4 hxl hyl, hb]
theorem ex_neq (t : TypeId) (x y : Operand) (t2 : TypeId) (ho : o.op = .binOp .neq t x y t2) (xs ys : List UInt8) (hx : ρ x = .agg (u8s xs).toArray) (hy : ρ y = .agg (u8s ys).toArray) {n : Nat} [k : Arr8 P t n] (hxl : xs.length = n) (hyl : ys.length = n) (b : Bool) (hb : (!(xs == ys)) = b) :
    Reads P ρ o w (.bool b) := by
  obtain ⟨e, i, h1, h2, h3, h4⟩ := k.eq
  refine ⟨by simp [ho], by simp [Oper.about, ho], ?_⟩
  unfold execOp
  simp only [ho, hx, hy, Sem.run_bind, Sem.run_pure, Result.andThen_ok, run_guard_arr (P := P) k.guard .neq x y xs ys w |> fun h => (h : (eqGuard .neq t x y (.agg (u8s xs).toArray) (.agg (u8s ys).toArray)).run P w = .ok () w), run_neq_agg h1 h2 h3 h4 hxl hyl, hb]
end
end Go.Proofs.Ytjmjdffnakojpaa
