/- Composite literals over memory as a list of parts; fields and elements of values; copy. Program independent. -/
import Derived.Test.YtcmgjoamfjijhaaOps
namespace Go.Proofs.Ytcmgjoamfjijhaa
open Go.RowKit
set_option linter.unusedVariables false

theorem fill_fold (off : Nat) : ∀ (ys : List Value) (k : Nat) (cs : Array Value), off + k + ys.length ≤ cs.size →
    ((ys.zipIdx k).foldl (fun (cs : Array Value) (p : Value × Nat) => cs.setIfInBounds (off + p.2) p.1) cs).toList = cs.toList.take (off + k) ++ ys ++ cs.toList.drop (off + k + ys.length)
  | [], k, cs, h => by simp
  | y :: ys, k, cs, h => by
    have hl : off + k < cs.toList.length := by simp at h ⊢; omega
    rw [List.zipIdx_cons, List.foldl_cons, fill_fold off ys (k + 1) _ (by simp at h ⊢; omega), Array.toList_setIfInBounds, List.set_eq_take_append_cons_drop, if_pos hl]
    dsimp only
    have h1 : (cs.toList.take (off + k)).length = off + k := by rw [List.length_take]; omega
    rw [show off + (k + 1) = (cs.toList.take (off + k)).length + 1 by omega, List.take_append, List.take_of_length_le (by omega), Nat.add_sub_cancel_left, List.take_succ_cons, List.take_zero, List.length_cons]
    rw [show (cs.toList.take (off + k)).length + 1 + ys.length = (cs.toList.take (off + k)).length + (ys.length + 1) by omega, List.drop_append, List.drop_eq_nil_of_le (by omega), Nat.add_sub_cancel_left, List.drop_succ_cons, List.drop_drop, List.nil_append]
    rw [show off + k + (ys.length + 1) = off + k + 1 + ys.length by omega]
    simp [List.append_assoc]

/-- One part of a composite literal. -/
theorem fill_one {place : Nat → Option (Nat × Nat)} {xs ys xs' : List Value} {i off n : Nat} {v : Value} {rest : List (Nat × Value)} (hp : place i = some (off, n)) (hv : v.cells = ys.toArray) (hn : ys.length = n) (hx : PutN xs off ys xs') :
    Instr.fill place xs.toArray ((i, v) :: rest) = Instr.fill place xs'.toArray rest := by
  have hle := hx.le
  have hf := fill_fold off ys 0 xs.toArray (by simpa using hle)
  have e : (v.cells.zipIdx.foldl (fun (cs : Array Value) (p : Value × Nat) => cs.setIfInBounds (off + p.2) p.1) xs.toArray) = xs'.toArray := by
    rw [hv]
    apply Array.toList_inj.1
    rw [Array.zipIdx_toArray, List.foldl_toArray]
    simp only [Nat.add_zero] at hf
    rw [hf]
    have := hx.eq
    simpa using this
  have hs : v.cells.size = n := by rw [hv, List.size_toArray, hn]
  simp only [Instr.fill, hp, hs, List.size_toArray]
  rw [if_neg (by simp; omega)]
  exact congrArg (fun cs => Instr.fill place cs rest) e

/-- Where the fields of a struct stand. -/
class Places (P : Program) (t : TypeId) (pl : outParam (List (Nat × Nat))) (zs : outParam (List Value)) : Prop where
  eq : ∀ parts, P.built t parts = Instr.fill (pl.toArray[·]?) zs.toArray parts
class PlaceAt (pl : List (Nat × Nat)) (i : Nat) (off n : outParam Nat) : Prop where
  eq : pl[i]? = some (off, n)
instance (a b : Nat) (l : List (Nat × Nat)) : PlaceAt ((a, b) :: l) 0 a b := ⟨rfl⟩
instance (a b : Nat) (x0 : Nat × Nat) (l : List (Nat × Nat)) : PlaceAt (x0 :: (a, b) :: l) 1 a b := ⟨rfl⟩
instance (a b : Nat) (x0 x1 : Nat × Nat) (l : List (Nat × Nat)) : PlaceAt (x0 :: x1 :: (a, b) :: l) 2 a b := ⟨rfl⟩
instance (a b : Nat) (x0 x1 x2 : Nat × Nat) (l : List (Nat × Nat)) : PlaceAt (x0 :: x1 :: x2 :: (a, b) :: l) 3 a b := ⟨rfl⟩
instance (a b : Nat) (x0 x1 x2 x3 : Nat × Nat) (l : List (Nat × Nat)) : PlaceAt (x0 :: x1 :: x2 :: x3 :: (a, b) :: l) 4 a b := ⟨rfl⟩
instance (a b : Nat) (x0 x1 x2 x3 x4 : Nat × Nat) (l : List (Nat × Nat)) : PlaceAt (x0 :: x1 :: x2 :: x3 :: x4 :: (a, b) :: l) 5 a b := ⟨rfl⟩
instance (a b : Nat) (x0 x1 x2 x3 x4 x5 : Nat × Nat) (l : List (Nat × Nat)) : PlaceAt (x0 :: x1 :: x2 :: x3 :: x4 :: x5 :: (a, b) :: l) 6 a b := ⟨rfl⟩
instance (a b : Nat) (x0 x1 x2 x3 x4 x5 x6 : Nat × Nat) (l : List (Nat × Nat)) : PlaceAt (x0 :: x1 :: x2 :: x3 :: x4 :: x5 :: x6 :: (a, b) :: l) 7 a b := ⟨rfl⟩
/-- The cells behind the parts. -/
class FillTo (pl : List (Nat × Nat)) (xs : List Value) (parts : List (Nat × Value)) (xs' : outParam (List Value)) : Prop where
  eq : Instr.fill (pl.toArray[·]?) xs.toArray parts = some xs'.toArray
instance FillTo.nil (pl : List (Nat × Nat)) (xs : List Value) : FillTo pl xs [] xs := ⟨rfl⟩
instance FillTo.agg (pl : List (Nat × Nat)) (xs ys xs1 xs2 : List Value) (i off n : Nat) (rest : List (Nat × Value)) [hp : PlaceAt pl i off n] [hr : Row ys n] [hx : PutN xs off ys xs1] [hk : FillTo pl xs1 rest xs2] : FillTo pl xs ((i, .agg ys.toArray) :: rest) xs2 :=
  ⟨(fill_one (ys := ys) (by simpa using hp.eq) rfl hr.len hx).trans hk.eq⟩
theorem PutN.of1 {xs xs' : List Value} {i : Nat} {v : Value} (h : Put1 xs i v xs') : PutN xs i [v] xs' :=
  ⟨by rw [← h.eq, List.set_eq_take_append_cons_drop, if_pos h.lt]; simp, by have := h.lt; simp; omega⟩
instance FillTo.one (pl : List (Nat × Nat)) (xs xs1 xs2 : List Value) (v : Value) (i off : Nat) (rest : List (Nat × Value)) [hp : PlaceAt pl i off 1] [hr : OneV v] [hx : Put1 xs off v xs1] [hk : FillTo pl xs1 rest xs2] : FillTo pl xs ((i, v) :: rest) xs2 :=
  ⟨(fill_one (ys := [v]) (by simpa using hp.eq) hr.cells rfl (.of1 hx)).trans hk.eq⟩

section
variable {P : Program} {S : Nat → Prop} {w0 w : World} {L F : List Ent} {ρ : Operand → Value} {o : Oper}
/-- T{..}: a struct's literal. -/
theorem ex_lit (t : TypeId) (parts : Array (Nat × Operand)) (ho : o.op = .build t parts) (ps : List (Nat × Value)) (hp : parts.toList.map (fun p => (p.1, ρ p.2)) = ps) {pl : List (Nat × Nat)} {zs xs : List Value} [kp : Places P t pl zs] [kf : FillTo pl zs ps xs] :
    Reads P ρ o w (.agg xs.toArray) :=
  ex_build t parts ho xs.toArray (by rw [show (parts.map fun (i, x) => (i, ρ x)).toList = ps by rw [← hp]; simp, kp.eq, kf.eq])

theorem range_size (z : Array Value) (n : Nat) : ((Array.range n).map (z[· % z.size]!)).size = n := by simp
theorem row_split {α : Type} {sz : Nat} (f : α → List Value) (hf : ∀ x, (f x).length = sz) (l : List α) : (l.flatMap f).length = l.length * sz := length_flatMap hf l
/-- The cells of a literal's parts, laid one behind the other. -/
theorem fill_row {sz : Nat} (hsz : 0 < sz) : ∀ (vs : List (Value × List Value)) (k : Nat) (done left : List Value), (∀ p ∈ vs, p.1.cells = p.2.toArray ∧ p.2.length = sz) → done.length = k * sz → left.length = vs.length * sz →
    Instr.fill (fun i => some (i * sz, sz)) (done ++ left).toArray ((vs.zipIdx k).map fun p => (p.2, p.1.1)) = some (done ++ vs.flatMap (·.2)).toArray
  | [], k, done, left, _, _, hl => by
    have : left = [] := List.eq_nil_of_length_eq_zero (by simpa using hl)
    simp [this, Instr.fill]
  | p :: vs, k, done, left, hv, hd, hl => by
    obtain ⟨hp, hp2⟩ := hv p List.mem_cons_self
    rw [List.length_cons, Nat.succ_mul] at hl
    have hx : PutN (done ++ left) (k * sz) p.2 (done ++ p.2 ++ left.drop sz) := ⟨by
      rw [List.take_left' hd, ← hd, List.drop_append, List.drop_eq_nil_of_le (by omega), Nat.add_sub_cancel_left, hp2, List.nil_append], by rw [List.length_append, hd, hp2]; omega⟩
    rw [List.zipIdx_cons, List.map_cons, fill_one (ys := p.2) rfl hp hp2 hx, fill_row hsz vs (k + 1) (done ++ p.2) (left.drop sz) (fun q hq => hv q (List.mem_cons_of_mem _ hq)) (by rw [List.length_append, hd, hp2, Nat.succ_mul]) (by rw [List.length_drop]; omega)]
    simp
/-- []T{..}, all of its elements. -/
theorem ex_sliceN (h : St S w0 w L) (t : TypeId) (len : Nat) (parts : Array (Nat × Operand)) (ho : o.op = .buildSlice t len parts) {e : TypeId} {sz bytes : Nat} [ke : Elm P t e sz bytes] (vs : List (Value × List Value))
    (hp0 : parts.toList.map (fun p => (p.1, ρ p.2)) = (vs.zipIdx 0).map fun p => (p.2, p.1.1)) (hl : vs.length = len) (hv : ∀ p ∈ vs, p.1.cells = p.2.toArray ∧ p.2.length = sz) (hpos : 0 < len) (hsm : len * sz ≤ 16777216) :
    Runs P ρ o w fun v w' => ∃ g, v = .slice (some ⟨g, 0, none⟩) len len ∧ St S w0 w' (eBlk g e (vs.flatMap (·.2)) :: L) := by
  have hp : (parts.map fun (i, x) => (i, ρ x)).toList = (vs.zipIdx 0).map fun p => (p.2, p.1.1) := by rw [← hp0]; simp
  obtain ⟨i, z, hi, hz, hsize, hby, hzs⟩ := ke.info
  have hsz := ke.pos
  have hf := fill_row hsz vs 0 [] ((Array.range (len * sz)).map (z.cells[· % z.cells.size]!)).toList hv (by simp) (by simp [hl])
  rw [List.nil_append, List.nil_append, Array.toArray_toList, ← hp] at hf
  generalize hx : vs.flatMap (·.2) = xs at hf ⊢
  have hb : Blk (w.alloc (.cells xs.toArray e)) w.heap.size e xs.toArray := Blk.new w e _
  have hm := Nat.mul_pos hpos hsz
  refine ⟨by simp [ho], by simp [Oper.about, ho], .slice (some ⟨w.heap.size, 0, none⟩) len len, w.alloc (.cells xs.toArray e), .inl ?_, w.heap.size, rfl, h.add ((Step.refl _ _).alloc _) (eBlk w.heap.size e xs) hb (fun k hk => Nat.le_of_eq (show k = w.heap.size from hk).symm) (fun _ hk => hk)⟩
  unfold execOp
  simp only [ho, Sem.run_bind, run_buildSlice w t e len _ xs.toArray i z ke.und hi hz (by rw [hsize]; omega) (by rw [hsize]; omega) (by rw [hsize]; exact hf), Result.andThen_ok, Sem.run_pure]
/-- []T{x}. -/
theorem ex_slice1 (h : St S w0 w L) (t : TypeId) (x : Operand) (ho : o.op = .buildSlice t 1 #[(0, x)]) {e : TypeId} {sz bytes : Nat} [ke : Elm P t e sz bytes] (xs : List Value) (hx : ρ x = .agg xs.toArray) [kr : Row xs sz] :
    Runs P ρ o w fun v w' => ∃ g, v = .slice (some ⟨g, 0, none⟩) 1 1 ∧ St S w0 w' (eBlk g e xs :: L) := by
  have h := ex_sliceN (P := P) (ρ := ρ) h t 1 #[(0, x)] ho [(.agg xs.toArray, xs)] (by simp [hx]) rfl (by simp [Value.cells, kr.len]) (by omega) (by have := kr.small; omega)
  simpa using h
/-- []T{x}, x of one cell. -/
theorem ex_slice1v (h : St S w0 w L) (t : TypeId) (x : Operand) (ho : o.op = .buildSlice t 1 #[(0, x)]) {e : TypeId} {bytes : Nat} [ke : Elm P t e 1 bytes] (u : Value) (hx : ρ x = u) [kr : OneV u] :
    Runs P ρ o w fun v w' => ∃ g, v = .slice (some ⟨g, 0, none⟩) 1 1 ∧ St S w0 w' (eBlk g e [u] :: L) := by
  have h := ex_sliceN (P := P) (ρ := ρ) h t 1 #[(0, x)] ho [(u, [u])] (by simp [hx]) rfl (by simp [kr.cells]) (by omega) (by omega)
  simpa using h
theorem ex_store1i (h : St S w0 w L) (ty : TypeId) (x y : Operand) (ho : o.op = .store ty x y) (g off : Nat) (hx : ρ x = .pointer (some ⟨g, off, none⟩)) (k : IntKind) (i : Int) (hy : ρ y = .int k i) {t : TypeId} {xs xs' : List Value}
    [ks : One P ty] [kb : SlotB L g t xs F] [kp : Put1 xs off (.int k i) xs'] : Runs P ρ o w fun v w' => v = undef ∧ St S w0 w' (eBlk g t xs' :: F) := ex_store1 (P := P) h ty x y ho g off hx _ hy
theorem ex_box1i (h : St S w0 w L) (ty : TypeId) (x : Operand) (ho : o.op = .box ty x) (k : IntKind) (i : Int) (hx : ρ x = .int k i) : Runs P ρ o w fun v w' => ∃ g, v = .pointer (some ⟨g, 0, none⟩) ∧ St S w0 w' (eBlk g ty [.int k i] :: L) := ex_box1 (P := P) h ty x ho _ hx
theorem ex_slice1i (h : St S w0 w L) (t : TypeId) (x : Operand) (ho : o.op = .buildSlice t 1 #[(0, x)]) {e : TypeId} {bytes : Nat} [ke : Elm P t e 1 bytes] (k : IntKind) (i : Int) (hx : ρ x = .int k i) : Runs P ρ o w fun v w' => ∃ g, v = .slice (some ⟨g, 0, none⟩) 1 1 ∧ St S w0 w' (eBlk g e [.int k i] :: L) := ex_slice1v (P := P) h t x ho _ hx
theorem ex_store1s (h : St S w0 w L) (ty : TypeId) (x y : Operand) (ho : o.op = .store ty x y) (g off : Nat) (hx : ρ x = .pointer (some ⟨g, off, none⟩)) (B : Option Addr) (m d : Nat) (hy : ρ y = .slice B m d) {t : TypeId} {xs xs' : List Value}
    [ks : One P ty] [kb : SlotB L g t xs F] [kp : Put1 xs off (.slice B m d) xs'] : Runs P ρ o w fun v w' => v = undef ∧ St S w0 w' (eBlk g t xs' :: F) := ex_store1 (P := P) h ty x y ho g off hx _ hy
theorem ex_box1s (h : St S w0 w L) (ty : TypeId) (x : Operand) (ho : o.op = .box ty x) (B : Option Addr) (m d : Nat) (hx : ρ x = .slice B m d) : Runs P ρ o w fun v w' => ∃ g, v = .pointer (some ⟨g, 0, none⟩) ∧ St S w0 w' (eBlk g ty [.slice B m d] :: L) := ex_box1 (P := P) h ty x ho _ hx
theorem ex_slice1s (h : St S w0 w L) (t : TypeId) (x : Operand) (ho : o.op = .buildSlice t 1 #[(0, x)]) {e : TypeId} {bytes : Nat} [ke : Elm P t e 1 bytes] (B : Option Addr) (m d : Nat) (hx : ρ x = .slice B m d) : Runs P ρ o w fun v w' => ∃ g, v = .slice (some ⟨g, 0, none⟩) 1 1 ∧ St S w0 w' (eBlk g e [.slice B m d] :: L) := ex_slice1v (P := P) h t x ho _ hx
theorem ex_store1b (h : St S w0 w L) (ty : TypeId) (x y : Operand) (ho : o.op = .store ty x y) (g off : Nat) (hx : ρ x = .pointer (some ⟨g, off, none⟩)) (b : Bool) (hy : ρ y = .bool b) {t : TypeId} {xs xs' : List Value}
    [ks : One P ty] [kb : SlotB L g t xs F] [kp : Put1 xs off (.bool b) xs'] : Runs P ρ o w fun v w' => v = undef ∧ St S w0 w' (eBlk g t xs' :: F) := ex_store1 (P := P) h ty x y ho g off hx _ hy
theorem ex_box1b (h : St S w0 w L) (ty : TypeId) (x : Operand) (ho : o.op = .box ty x) (b : Bool) (hx : ρ x = .bool b) : Runs P ρ o w fun v w' => ∃ g, v = .pointer (some ⟨g, 0, none⟩) ∧ St S w0 w' (eBlk g ty [.bool b] :: L) := ex_box1 (P := P) h ty x ho _ hx
theorem ex_slice1b (h : St S w0 w L) (t : TypeId) (x : Operand) (ho : o.op = .buildSlice t 1 #[(0, x)]) {e : TypeId} {bytes : Nat} [ke : Elm P t e 1 bytes] (b : Bool) (hx : ρ x = .bool b) : Runs P ρ o w fun v w' => ∃ g, v = .slice (some ⟨g, 0, none⟩) 1 1 ∧ St S w0 w' (eBlk g e [.bool b] :: L) := ex_slice1v (P := P) h t x ho _ hx
theorem ex_store1t (h : St S w0 w L) (ty : TypeId) (x y : Operand) (ho : o.op = .store ty x y) (g off : Nat) (hx : ρ x = .pointer (some ⟨g, off, none⟩)) (s : ByteArray) (hy : ρ y = .string s) {t : TypeId} {xs xs' : List Value}
    [ks : One P ty] [kb : SlotB L g t xs F] [kp : Put1 xs off (.string s) xs'] : Runs P ρ o w fun v w' => v = undef ∧ St S w0 w' (eBlk g t xs' :: F) := ex_store1 (P := P) h ty x y ho g off hx _ hy
theorem ex_box1t (h : St S w0 w L) (ty : TypeId) (x : Operand) (ho : o.op = .box ty x) (s : ByteArray) (hx : ρ x = .string s) : Runs P ρ o w fun v w' => ∃ g, v = .pointer (some ⟨g, 0, none⟩) ∧ St S w0 w' (eBlk g ty [.string s] :: L) := ex_box1 (P := P) h ty x ho _ hx
theorem ex_slice1t (h : St S w0 w L) (t : TypeId) (x : Operand) (ho : o.op = .buildSlice t 1 #[(0, x)]) {e : TypeId} {bytes : Nat} [ke : Elm P t e 1 bytes] (s : ByteArray) (hx : ρ x = .string s) : Runs P ρ o w fun v w' => ∃ g, v = .slice (some ⟨g, 0, none⟩) 1 1 ∧ St S w0 w' (eBlk g e [.string s] :: L) := ex_slice1v (P := P) h t x ho _ hx
theorem ex_store1p (h : St S w0 w L) (ty : TypeId) (x y : Operand) (ho : o.op = .store ty x y) (g off : Nat) (hx : ρ x = .pointer (some ⟨g, off, none⟩)) (q : Option Addr) (hy : ρ y = .pointer q) {t : TypeId} {xs xs' : List Value}
    [ks : One P ty] [kb : SlotB L g t xs F] [kp : Put1 xs off (.pointer q) xs'] : Runs P ρ o w fun v w' => v = undef ∧ St S w0 w' (eBlk g t xs' :: F) := ex_store1 (P := P) h ty x y ho g off hx _ hy
theorem ex_box1p (h : St S w0 w L) (ty : TypeId) (x : Operand) (ho : o.op = .box ty x) (q : Option Addr) (hx : ρ x = .pointer q) : Runs P ρ o w fun v w' => ∃ g, v = .pointer (some ⟨g, 0, none⟩) ∧ St S w0 w' (eBlk g ty [.pointer q] :: L) := ex_box1 (P := P) h ty x ho _ hx
theorem ex_slice1p (h : St S w0 w L) (t : TypeId) (x : Operand) (ho : o.op = .buildSlice t 1 #[(0, x)]) {e : TypeId} {bytes : Nat} [ke : Elm P t e 1 bytes] (q : Option Addr) (hx : ρ x = .pointer q) : Runs P ρ o w fun v w' => ∃ g, v = .slice (some ⟨g, 0, none⟩) 1 1 ∧ St S w0 w' (eBlk g e [.pointer q] :: L) := ex_slice1v (P := P) h t x ho _ hx
theorem ex_store1m (h : St S w0 w L) (ty : TypeId) (x y : Operand) (ho : o.op = .store ty x y) (g off : Nat) (hx : ρ x = .pointer (some ⟨g, off, none⟩)) (r : Option Nat) (hy : ρ y = .map r) {t : TypeId} {xs xs' : List Value}
    [ks : One P ty] [kb : SlotB L g t xs F] [kp : Put1 xs off (.map r) xs'] : Runs P ρ o w fun v w' => v = undef ∧ St S w0 w' (eBlk g t xs' :: F) := ex_store1 (P := P) h ty x y ho g off hx _ hy
theorem ex_box1m (h : St S w0 w L) (ty : TypeId) (x : Operand) (ho : o.op = .box ty x) (r : Option Nat) (hx : ρ x = .map r) : Runs P ρ o w fun v w' => ∃ g, v = .pointer (some ⟨g, 0, none⟩) ∧ St S w0 w' (eBlk g ty [.map r] :: L) := ex_box1 (P := P) h ty x ho _ hx
theorem ex_slice1m (h : St S w0 w L) (t : TypeId) (x : Operand) (ho : o.op = .buildSlice t 1 #[(0, x)]) {e : TypeId} {bytes : Nat} [ke : Elm P t e 1 bytes] (r : Option Nat) (hx : ρ x = .map r) : Runs P ρ o w fun v w' => ∃ g, v = .slice (some ⟨g, 0, none⟩) 1 1 ∧ St S w0 w' (eBlk g e [.map r] :: L) := ex_slice1v (P := P) h t x ho _ hx
/-- The zero of a struct or an array, as a literal with no parts makes it. -/
class Blt0 (P : Program) (t : TypeId) (zs : outParam (List Value)) : Prop where
  eq : P.built t [] = some zs.toArray
theorem ex_lit0 (t : TypeId) (ho : o.op = .build t #[]) {zs : List Value} [k : Blt0 P t zs] : Reads P ρ o w (.agg zs.toArray) := ex_zero t ho zs k.eq
/-- Arrays of bytes that are held against each other. -/
class Arr8 (P : Program) (t : TypeId) (n : outParam Nat) : Prop where
  eq : ∃ e i, P.underlying t = some (.array n e) ∧ P.underlying e = some (.int .u8) ∧ P.info? e = some i ∧ i.size = 1
  guard : P.eqGuardType P.depth t = false
theorem ex_eq (t : TypeId) (x y : Operand) (t2 : TypeId) (ho : o.op = .binOp .eql t x y t2) (xs ys : List UInt8) (hx : ρ x = .agg (u8s xs).toArray) (hy : ρ y = .agg (u8s ys).toArray) {n : Nat} [k : Arr8 P t n] (hxl : xs.length = n) (hyl : ys.length = n) (b : Bool) (hb : (xs == ys) = b) :
    Reads P ρ o w (.bool b) := by
  obtain ⟨e, i, h1, h2, h3, h4⟩ := k.eq
  refine ⟨by simp [ho], by simp [Oper.about, ho], ?_⟩
  unfold execOp
  simp only [ho, hx, hy, Sem.run_bind, Sem.run_pure, Result.andThen_ok, run_guard_arr (P := P) k.guard .eql x y xs ys w |> fun h => (h : (eqGuard .eql t x y (.agg (u8s xs).toArray) (.agg (u8s ys).toArray)).run P w = .ok () w), run_eql_agg h1 h2 h3 h4 hxl hyl, hb]
theorem ex_neq (t : TypeId) (x y : Operand) (t2 : TypeId) (ho : o.op = .binOp .neq t x y t2) (xs ys : List UInt8) (hx : ρ x = .agg (u8s xs).toArray) (hy : ρ y = .agg (u8s ys).toArray) {n : Nat} [k : Arr8 P t n] (hxl : xs.length = n) (hyl : ys.length = n) (b : Bool) (hb : (!(xs == ys)) = b) :
    Reads P ρ o w (.bool b) := by
  obtain ⟨e, i, h1, h2, h3, h4⟩ := k.eq
  refine ⟨by simp [ho], by simp [Oper.about, ho], ?_⟩
  unfold execOp
  simp only [ho, hx, hy, Sem.run_bind, Sem.run_pure, Result.andThen_ok, run_guard_arr (P := P) k.guard .neq x y xs ys w |> fun h => (h : (eqGuard .neq t x y (.agg (u8s xs).toArray) (.agg (u8s ys).toArray)).run P w = .ok () w), run_neq_agg h1 h2 h3 h4 hxl hyl, hb]
theorem Sl.cellAt {b off n c : Nat} {xs : List Value} (h : Sl w (some ⟨b, off, none⟩) n c 1 xs) {i : Nat} {v : Value} (hv : xs[i]? = some v) : w.cell? ⟨b, off + i, none⟩ = some v := h.cells rfl i v hv
/-- copy into a row of one's own. -/
theorem ex_copy (h : St S w0 w L) (d s : Operand) (dT sT : TypeId) (ho : o.op = .call { callee := .builtin .copy, args := #[d, s], argTypes := #[dT, sT] }) {e : TypeId} {bytes : Nat} [ke : Elm P dT e 1 bytes]
    (A : Option Addr) {n c : Nat} {xs : List Value} (hd : ρ d = .slice A n c) [ko : SlotO L A e 1 n c xs F] (B : Option Addr) (m k : Nat) (hs : ρ s = .slice B m k) {ys : List Value} (hr : Sl w B m k 1 ys) (h1 : ∀ u ∈ ys, u.oneCell' = true) :
    Runs P ρ o w fun v w' => v = goInt (Nat.min m n) ∧ St S w0 w' (eOwn e 1 A n c (ys.take n ++ xs.drop m) :: F) := by
  obtain ⟨i, z, hi, hz, hsize, hby, hzs⟩ := ke.info
  have hinf : (P.info? e).map (·.size) = some 1 := by rw [hi, Option.map_some, hsize]
  have hown := h.row A (k := ko)
  have hyl : ys.length = m := by have := hr.len; omega
  have hxl : xs.length = n := by have := hown.1; omega
  have exec : ∀ v w', (Builtin.copy_ #[dT, sT] o.type #[.slice A n c, .slice B m k]).run P w = .ok v w' → (execOp ρ o).run P w = .ok (.value v) w' := fun v w' hrun => by
    unfold execOp
    simp only [ho, resolve, invoke, builtin, Sem.run_bind, Sem.run_pure, Result.andThen_ok, List.map_toArray, List.map_cons, List.map_nil, hd, hs, hrun]
  by_cases hm : Nat.min m n = 0
  · have hrun := run_copy_none (P := P) w dT sT o.type e A B n c m k ke.und hinf hm
    refine ⟨by simp [ho], by simp [Oper.about, ho, resolve, Target.leads], _, w, .inl (exec _ _ hrun), by rw [hm]; rfl, ?_⟩
    have hm' : min m n = 0 := hm
    have e1 : ys.take n ++ xs.drop m = xs := by
      by_cases hn : n = 0
      · subst hn
        have : xs = [] := List.eq_nil_of_length_eq_zero hxl
        simp [this]
      · have hm0 : m = 0 := by omega
        subst hm0
        have : ys = [] := List.eq_nil_of_length_eq_zero hyl
        simp [this]
    rw [e1]
    exact h.perm ko.perm
  · have hm' : ¬ min m n = 0 := hm
    rcases hown.2 with ⟨rfl, rfl, rfl⟩ | ⟨g, off, cur, rfl, hg, hnc, hcm, hle, htk⟩
    · exact absurd (Nat.min_zero m) hm
    · rw [Nat.mul_one] at hle htk
      obtain ⟨b, o2, rfl, _, hc⟩ := hr.pos (by omega)
      have hln : (ys.take n).length = Nat.min m n := by rw [List.length_take, hyl]; exact Nat.min_comm _ _
      have hln2 : (ys.take n).length = min m n := hln
      have hcl : cur.toList.length = cur.size := by simp
      have hrun := run_copy_row (P := P) w dT sT o.type e g off n c ⟨b, o2, none⟩ m k cur e (ys.take n) ke.und hinf hg hln (fun j v hv => by
        rw [add_none]
        rw [List.getElem?_take] at hv
        split at hv
        · exact hc j v hv
        · cases hv) (by omega) (fun v hv => h1 v (List.mem_of_mem_take hv))
      obtain ⟨hb', hs'⟩ := Blk.setRow (w := w) hg (cur.toList.take off ++ ys.take n ++ cur.toList.drop (off + (ys.take n).length)).toArray
      refine ⟨by simp [ho], by simp [Oper.about, ho, resolve, Target.leads], _, _, .inl (exec _ _ hrun), by rw [hln], h.set (k := ⟨ko.perm⟩) (eOwn e 1 (some ⟨g, off, none⟩) n c (ys.take n ++ xs.drop m)) (hs'.mono fun k _ hk => ⟨_, rfl, hk.symm⟩) ⟨?_, .inr ⟨g, off, _, rfl, hb', hnc, hcm, ?_, ?_⟩⟩ (fun k hk => .inl hk) (fun _ hk => hk)⟩
      · rw [List.length_append, hln2, List.length_drop, hxl]; omega
      · simp only [List.size_toArray, List.length_append, List.length_take, List.length_drop]
        omega
      · have h5 : (cur.toList.take off).length = off := by rw [List.length_take]; omega
        rw [Nat.mul_one, List.append_assoc, List.drop_append_of_le_length (by omega), List.drop_eq_nil_of_le (by omega), List.nil_append, List.take_append, List.take_of_length_le (by omega), hln2, ← htk, List.drop_take, List.drop_drop]
        congr 1
        rcases Nat.le_total m n with hmn | hmn
        · rw [Nat.min_eq_left hmn]
        · rw [Nat.min_eq_right hmn, Nat.sub_self, show n - m = 0 by omega, List.take_zero, List.take_zero]
/-- One element of a row stored. -/
theorem ex_store_row (h : St S w0 w L) (ty : TypeId) (x y : Operand) (ho : o.op = .store ty x y) (g off i : Nat) (hx : ρ x = .pointer (some ⟨g, off + i, none⟩)) (u : Value) (hy : ρ y = u) {e : TypeId} {n c : Nat} {xs : List Value}
    [ks : One P ty] [kv : OneV u] [ko : SlotO L (some ⟨g, off, none⟩) e 1 n c xs F] (hlt : i < n) :
    Runs P ρ o w fun v w' => v = undef ∧ St S w0 w' (eOwn e 1 (some ⟨g, off, none⟩) n c (xs.set i u) :: F) := by
  have hown := h.row (some ⟨g, off, none⟩) (k := ko)
  rcases hown.2 with ⟨h0, _⟩ | ⟨g', off', cur, e1, hg, hnc, hcm, hle, htk⟩
  · cases h0
  · injection e1 with e1
    injection e1 with e1 e2
    subst e1 e2
    rw [Nat.mul_one] at hle htk
    have hcl : cur.toList.length = cur.size := by simp
    obtain ⟨w', hrun, hb', hs', _⟩ := op_store (P := P) w ty x y ho g (off + i) hx u [u] hy kv.cells ks.siz (by simp [kv.one]) e _ hg (by simp; omega)
    have e3 : cur.toList.take (off + i) ++ [u] ++ cur.toList.drop (off + i + [u].length) = cur.toList.set (off + i) u := by
      rw [List.set_eq_take_append_cons_drop, if_pos (by omega)]
      simp
    rw [e3] at hb'
    refine ⟨by simp [ho], by simp [Oper.about, ho], _, _, .inr ⟨hrun, rfl⟩, rfl, h.set (k := ⟨ko.perm⟩) (eOwn e 1 (some ⟨g, off, none⟩) n c (xs.set i u)) (hs'.mono fun k _ hk => ⟨_, rfl, hk.symm⟩) ⟨by rw [List.length_set]; exact hown.1, .inr ⟨g, off, _, rfl, hb', hnc, hcm, by simp; omega, ?_⟩⟩ (fun k hk => .inl hk) (fun _ hk => hk)⟩
    rw [Nat.mul_one, ← htk, List.drop_set, if_neg (by omega), Nat.add_sub_cancel_left, List.take_set]
/-- []byte("..") of a constant: the literal's row is marked behind its end. -/
theorem ex_conv (h : St S w0 w L) (t : TypeId) (x : Operand) (ho : o.op = .convert t t x) {e : TypeId} {bytes : Nat} [ke : Elm P t e 1 bytes] (he : P.underlying e = some (.int .u8)) (g n : Nat) (hx : ρ x = .slice (some ⟨g, 0, none⟩) n n) {xs : List Value} [kb : SlotB L g e xs F] (hn : xs.length = n) (hm : n ≤ 100000) :
    Runs P ρ o w fun v w' => v = .slice (some ⟨g, 0, none⟩) n n ∧ St S w0 w' (eGot (some ⟨g, 0, none⟩) n n 1 xs :: F) := by
  have hb := h.blk g (k := kb)
  have hg : w.heap[g]? = some (.cells xs.toArray e (0, 0)) := hb
  have hsh : w.shape? g = some (e, xs.length) := by
    unfold World.shape?
    rw [hg]
    simp
  have hw : (w.freeze ⟨g, xs.length, none⟩ 1).heap[g]? = some (.cells xs.toArray e (xs.length, xs.length + 1)) := by
    unfold World.freeze
    simp [Array.getElem?_modify, hg]
  have hs : Step (fun k => k = g) w (w.freeze ⟨g, xs.length, none⟩ 1) := by
    unfold World.freeze
    refine ⟨rfl, rfl, rfl, by simp, fun k hk hk2 => ?_⟩
    simp [Array.getElem?_modify, Ne.symm hk2]
  have hcell : ∀ i u, xs[i]? = some u → (w.freeze ⟨g, xs.length, none⟩ 1).cell? ⟨g, 0 + i, none⟩ = some u := fun i u hu => by
    simp only [World.cell?, hw, Nat.zero_add]
    simpa using hu
  refine ⟨by simp [ho], by simp [Oper.about, ho], .slice (some ⟨g, 0, none⟩) n n, w.freeze ⟨g, xs.length, none⟩ 1, .inl ?_, rfl, h.set (k := ⟨kb.perm⟩) (eGot (some ⟨g, 0, none⟩) n n 1 xs) hs ⟨by omega, ⟨by rw [hn, Nat.mul_one], Nat.le_refl _, by simp [maxLen]; omega, fun _ => ⟨g, 0, rfl, ?_, hcell⟩⟩⟩ (fun k hk => .inl ?_) (fun _ hk => hk)⟩
  · unfold execOp
    simp [ho, hx, convert, run_underlying ke.und, run_underlying he, markStringish, hsh]
  · have := hs.size
    exact Nat.lt_of_lt_of_le hb.lt this
  · obtain ⟨_, a, ha, rfl⟩ := hk
    cases ha
    rfl
end

/-- What a load of type ty gives at a place among cells. -/
class LoadAs (P : Program) (ty : TypeId) (xs : List Value) (off : Nat) (v : outParam Value) : Prop where
  run : ∀ {w : World} {g : Nat} {t : TypeId} {ρ : Operand → Value} {o : Oper} (x : Operand), Blk w g t xs.toArray → o.op = .load ty x → ρ x = .pointer (some ⟨g, off, none⟩) → Reads P ρ o w v
instance LoadAs.one (P : Program) (ty : TypeId) (xs : List Value) (off : Nat) (u : Value) [ka : One P ty] [kc : Cell xs off u] : LoadAs P ty xs off u :=
  ⟨fun x hb ho hx => ex_load1_at ty x ho _ off hx u (by rw [hb.cell, List.getElem?_toArray]; exact kc.eq)⟩
instance LoadAs.agg (P : Program) (ty : TypeId) (xs ys : List Value) (off n : Nat) [ka : Agg P ty] [ks : Siz P ty n] [kp : Part xs off n ys] : LoadAs P ty xs off (.agg ys.toArray) :=
  ⟨fun x hb ho hx => by
    have hl : ys.length = n := by
      have := kp.le
      rw [← kp.eq, List.length_take, List.length_drop]
      omega
    exact ex_load_at ty x ho _ off hx ys hl (hb.part (by rw [hl]; exact kp.eq))⟩
theorem ex_loadv {P : Program} {ρ : Operand → Value} {o : Oper} {S : Nat → Prop} {w0 w : World} {L F : List Ent} (h : St S w0 w L) (ty : TypeId) (x : Operand) (ho : o.op = .load ty x) (g off : Nat) (hx : ρ x = .pointer (some ⟨g, off, none⟩)) {t : TypeId} {xs : List Value} {v : Value}
    [kb : SlotB L g t xs F] [kl : LoadAs P ty xs off v] : Reads P ρ o w v := kl.run x (h.blk g (k := kb)) ho hx
end Go.Proofs.Ytcmgjoamfjijhaa
