/- What is known of the types of this seat; printed by wip/mk_ty.py. -/
import Derived.Test.YtionnlckjjojnaaCB1
import Derived.Test.YtionnlckjjojnaaProg
namespace Go.Proofs.Ytionnlckjjojnaa
open Go.RowKit
set_option linter.unusedVariables false
set_option linter.unusedSimpArgs false

theorem cell_mid {pre suf l : List Value} {v : Value} {i : Nat} (e : l = pre ++ v :: suf) (hp : pre.length = i) : Cell l i v := ⟨by rw [e, List.getElem?_append_right (by omega), hp, Nat.sub_self]; rfl⟩
theorem put1_mid {pre suf l l' : List Value} {u v : Value} {i : Nat} (e : l = pre ++ u :: suf) (hp : pre.length = i) (e' : l' = pre ++ v :: suf) : Put1 l i v l' := ⟨by rw [e, e', List.set_append_right _ _ (by omega), hp, Nat.sub_self]; rfl, by rw [e]; simp; omega⟩
theorem part_mid {pre xs suf l : List Value} {off n : Nat} (e : l = pre ++ (xs ++ suf)) (hp : pre.length = off) (hx : xs.length = n) : Part l off n xs := ⟨by rw [e, List.drop_left' hp, List.take_left' hx], by rw [e]; simp; omega⟩
theorem putN_mid {pre xs suf l ys l' : List Value} {off n : Nat} (e : l = pre ++ (xs ++ suf)) (hp : pre.length = off) (hx : xs.length = n) (hy : ys.length = n) (e' : l' = pre ++ (ys ++ suf)) : PutN l off ys l' :=
  ⟨by rw [e, e', List.take_left' hp, ← List.append_assoc pre xs suf, List.drop_left' (by rw [List.length_append]; omega), List.append_assoc], by rw [e]; simp; omega⟩
theorem elm_mk {P : Program} {t e : TypeId} {z : Value} {sz bytes : Nat} (hu : P.underlying t = some (.slice e)) (h : (P.info? e).map (fun i => (i.zero, i.size, i.bytes)) = some (some z, sz, bytes)) (hz : z.cells.size = sz) (hp : 0 < sz) : Elm P t e sz bytes :=
  ⟨hu, by
    obtain ⟨i, hi, h1, h2, h3⟩ := info_parts h
    exact ⟨i, z, hi, h1, h2, h3, hz⟩, hp⟩

/-- The cells of a api.Object. -/
def c_api_Object (Id_ : List Value) (Links_ : Value) (Size_ : Value) : List Value := (Id_ ++ ([Links_, Size_]))
instance c_api_Object.row (Id_ : List Value) (Links_ : Value) (Size_ : Value) [r0 : Row Id_ 32] [v1 : OneV Links_] [v2 : OneV Size_] : Row (c_api_Object Id_ Links_ Size_) 34 := Row.mk' (by simp only [c_api_Object, List.length_append, List.length_cons, List.length_nil, r0.len]) (by
  intro u hu
  simp only [c_api_Object, List.mem_append, List.mem_cons, List.not_mem_nil, or_false, or_assoc] at hu
  rcases hu with hu | hu | hu
  all_goals first | (exact r0.one u hu) | (subst hu; exact v1.one) | (subst hu; exact v2.one)) (by omega)
instance c_api_Object.p_Id (Id_ : List Value) (Links_ : Value) (Size_ : Value) [r0 : Row Id_ 32] : Part (c_api_Object Id_ Links_ Size_) 0 32 Id_ := part_mid (pre := ([] : List Value)) (suf := ([Links_, Size_])) (by simp [c_api_Object]) (by simp [r0.len]) r0.len
instance c_api_Object.s_Id (Id_ : List Value) (Links_ : Value) (Size_ : Value) (new : List Value) [r0 : Row Id_ 32] [rn : Row new 32] : PutN (c_api_Object Id_ Links_ Size_) 0 new (c_api_Object new Links_ Size_) := putN_mid (pre := ([] : List Value)) (suf := ([Links_, Size_])) (by simp [c_api_Object]) (by simp [r0.len]) r0.len rn.len (by simp [c_api_Object])
instance c_api_Object.p_Links (Id_ : List Value) (Links_ : Value) (Size_ : Value) [r0 : Row Id_ 32] : Cell (c_api_Object Id_ Links_ Size_) 32 Links_ := cell_mid (pre := (Id_)) (suf := ([Size_])) (by simp [c_api_Object]) (by simp [r0.len])
instance c_api_Object.s_Links (Id_ : List Value) (Links_ : Value) (Size_ : Value) (new : Value) [r0 : Row Id_ 32] : Put1 (c_api_Object Id_ Links_ Size_) 32 new (c_api_Object Id_ new Size_) := put1_mid (pre := (Id_)) (u := Links_) (suf := ([Size_])) (by simp [c_api_Object]) (by simp [r0.len]) (by simp [c_api_Object])
instance c_api_Object.p_Size (Id_ : List Value) (Links_ : Value) (Size_ : Value) [r0 : Row Id_ 32] : Cell (c_api_Object Id_ Links_ Size_) 33 Size_ := cell_mid (pre := (Id_ ++ ([Links_]))) (suf := ([] : List Value)) (by simp [c_api_Object]) (by simp [r0.len])
instance c_api_Object.s_Size (Id_ : List Value) (Links_ : Value) (Size_ : Value) (new : Value) [r0 : Row Id_ 32] : Put1 (c_api_Object Id_ Links_ Size_) 33 new (c_api_Object Id_ Links_ new) := put1_mid (pre := (Id_ ++ ([Links_]))) (u := Size_) (suf := ([] : List Value)) (by simp [c_api_Object]) (by simp [r0.len]) (by simp [c_api_Object])

/-- The cells of a mark.placing. -/
def c_mark_placing (l_ : Value) (at_ : Value) (done_ : Value) (used_ : Value) : List Value := ([l_, at_, done_, used_])
instance c_mark_placing.row (l_ : Value) (at_ : Value) (done_ : Value) (used_ : Value)  [v0 : OneV l_] [v1 : OneV at_] [v2 : OneV done_] [v3 : OneV used_] : Row (c_mark_placing l_ at_ done_ used_) 4 := Row.mk' (by simp only [c_mark_placing, List.length_append, List.length_cons, List.length_nil]) (by
  intro u hu
  simp only [c_mark_placing, List.mem_append, List.mem_cons, List.not_mem_nil, or_false, or_assoc] at hu
  rcases hu with hu | hu | hu | hu
  all_goals first | (subst hu; exact v0.one) | (subst hu; exact v1.one) | (subst hu; exact v2.one) | (subst hu; exact v3.one)) (by omega)
instance c_mark_placing.p_l (l_ : Value) (at_ : Value) (done_ : Value) (used_ : Value)  : Cell (c_mark_placing l_ at_ done_ used_) 0 l_ := cell_mid (pre := ([] : List Value)) (suf := ([at_, done_, used_])) (by simp [c_mark_placing]) (by simp)
instance c_mark_placing.s_l (l_ : Value) (at_ : Value) (done_ : Value) (used_ : Value) (new : Value)  : Put1 (c_mark_placing l_ at_ done_ used_) 0 new (c_mark_placing new at_ done_ used_) := put1_mid (pre := ([] : List Value)) (u := l_) (suf := ([at_, done_, used_])) (by simp [c_mark_placing]) (by simp) (by simp [c_mark_placing])
instance c_mark_placing.p_at (l_ : Value) (at_ : Value) (done_ : Value) (used_ : Value)  : Cell (c_mark_placing l_ at_ done_ used_) 1 at_ := cell_mid (pre := ([l_])) (suf := ([done_, used_])) (by simp [c_mark_placing]) (by simp)
instance c_mark_placing.s_at (l_ : Value) (at_ : Value) (done_ : Value) (used_ : Value) (new : Value)  : Put1 (c_mark_placing l_ at_ done_ used_) 1 new (c_mark_placing l_ new done_ used_) := put1_mid (pre := ([l_])) (u := at_) (suf := ([done_, used_])) (by simp [c_mark_placing]) (by simp) (by simp [c_mark_placing])
instance c_mark_placing.p_done (l_ : Value) (at_ : Value) (done_ : Value) (used_ : Value)  : Cell (c_mark_placing l_ at_ done_ used_) 2 done_ := cell_mid (pre := ([l_, at_])) (suf := ([used_])) (by simp [c_mark_placing]) (by simp)
instance c_mark_placing.s_done (l_ : Value) (at_ : Value) (done_ : Value) (used_ : Value) (new : Value)  : Put1 (c_mark_placing l_ at_ done_ used_) 2 new (c_mark_placing l_ at_ new used_) := put1_mid (pre := ([l_, at_])) (u := done_) (suf := ([used_])) (by simp [c_mark_placing]) (by simp) (by simp [c_mark_placing])
instance c_mark_placing.p_used (l_ : Value) (at_ : Value) (done_ : Value) (used_ : Value)  : Cell (c_mark_placing l_ at_ done_ used_) 3 used_ := cell_mid (pre := ([l_, at_, done_])) (suf := ([] : List Value)) (by simp [c_mark_placing]) (by simp)
instance c_mark_placing.s_used (l_ : Value) (at_ : Value) (done_ : Value) (used_ : Value) (new : Value)  : Put1 (c_mark_placing l_ at_ done_ used_) 3 new (c_mark_placing l_ at_ done_ new) := put1_mid (pre := ([l_, at_, done_])) (u := used_) (suf := ([] : List Value)) (by simp [c_mark_placing]) (by simp) (by simp [c_mark_placing])

/-- The cells of a api.Rev. -/
def c_api_Rev (Id_ : List Value) (Parents_ : Value) (Seq_ : Value) : List Value := (Id_ ++ ([Parents_, Seq_]))
instance c_api_Rev.row (Id_ : List Value) (Parents_ : Value) (Seq_ : Value) [r0 : Row Id_ 32] [v1 : OneV Parents_] [v2 : OneV Seq_] : Row (c_api_Rev Id_ Parents_ Seq_) 34 := Row.mk' (by simp only [c_api_Rev, List.length_append, List.length_cons, List.length_nil, r0.len]) (by
  intro u hu
  simp only [c_api_Rev, List.mem_append, List.mem_cons, List.not_mem_nil, or_false, or_assoc] at hu
  rcases hu with hu | hu | hu
  all_goals first | (exact r0.one u hu) | (subst hu; exact v1.one) | (subst hu; exact v2.one)) (by omega)
instance c_api_Rev.p_Id (Id_ : List Value) (Parents_ : Value) (Seq_ : Value) [r0 : Row Id_ 32] : Part (c_api_Rev Id_ Parents_ Seq_) 0 32 Id_ := part_mid (pre := ([] : List Value)) (suf := ([Parents_, Seq_])) (by simp [c_api_Rev]) (by simp [r0.len]) r0.len
instance c_api_Rev.s_Id (Id_ : List Value) (Parents_ : Value) (Seq_ : Value) (new : List Value) [r0 : Row Id_ 32] [rn : Row new 32] : PutN (c_api_Rev Id_ Parents_ Seq_) 0 new (c_api_Rev new Parents_ Seq_) := putN_mid (pre := ([] : List Value)) (suf := ([Parents_, Seq_])) (by simp [c_api_Rev]) (by simp [r0.len]) r0.len rn.len (by simp [c_api_Rev])
instance c_api_Rev.p_Parents (Id_ : List Value) (Parents_ : Value) (Seq_ : Value) [r0 : Row Id_ 32] : Cell (c_api_Rev Id_ Parents_ Seq_) 32 Parents_ := cell_mid (pre := (Id_)) (suf := ([Seq_])) (by simp [c_api_Rev]) (by simp [r0.len])
instance c_api_Rev.s_Parents (Id_ : List Value) (Parents_ : Value) (Seq_ : Value) (new : Value) [r0 : Row Id_ 32] : Put1 (c_api_Rev Id_ Parents_ Seq_) 32 new (c_api_Rev Id_ new Seq_) := put1_mid (pre := (Id_)) (u := Parents_) (suf := ([Seq_])) (by simp [c_api_Rev]) (by simp [r0.len]) (by simp [c_api_Rev])
instance c_api_Rev.p_Seq (Id_ : List Value) (Parents_ : Value) (Seq_ : Value) [r0 : Row Id_ 32] : Cell (c_api_Rev Id_ Parents_ Seq_) 33 Seq_ := cell_mid (pre := (Id_ ++ ([Parents_]))) (suf := ([] : List Value)) (by simp [c_api_Rev]) (by simp [r0.len])
instance c_api_Rev.s_Seq (Id_ : List Value) (Parents_ : Value) (Seq_ : Value) (new : Value) [r0 : Row Id_ 32] : Put1 (c_api_Rev Id_ Parents_ Seq_) 33 new (c_api_Rev Id_ Parents_ new) := put1_mid (pre := (Id_ ++ ([Parents_]))) (u := Seq_) (suf := ([] : List Value)) (by simp [c_api_Rev]) (by simp [r0.len]) (by simp [c_api_Rev])

instance : One Try.prog 1 := ⟨⟨_, Try.underlying1, rfl⟩, by kernel_rfl⟩
instance : Siz Try.prog 1 1 := ⟨by kernel_rfl⟩
set_option maxRecDepth 100000 in
instance : Zer Try.prog 1 [.nilFunc] := ⟨.nilFunc, by kernel_rfl, rfl⟩
instance : One Try.prog 2 := ⟨⟨_, Try.underlying2, rfl⟩, by kernel_rfl⟩
instance : Siz Try.prog 2 1 := ⟨by kernel_rfl⟩
set_option maxRecDepth 100000 in
instance : Zer Try.prog 2 [.int .i64 0] := ⟨(.int .i64 0), by kernel_rfl, rfl⟩
instance : One Try.prog 3 := ⟨⟨_, Try.underlying3, rfl⟩, by kernel_rfl⟩
instance : Siz Try.prog 3 1 := ⟨by kernel_rfl⟩
set_option maxRecDepth 100000 in
instance : Zer Try.prog 3 [.int .i64 0] := ⟨(.int .i64 0), by kernel_rfl, rfl⟩
instance : One Try.prog 4 := ⟨⟨_, Try.underlying4, rfl⟩, by kernel_rfl⟩
instance : Siz Try.prog 4 1 := ⟨by kernel_rfl⟩
set_option maxRecDepth 100000 in
instance : Zer Try.prog 4 [.bool false] := ⟨(.bool false), by kernel_rfl, rfl⟩
instance : One Try.prog 5 := ⟨⟨_, Try.underlying5, rfl⟩, by kernel_rfl⟩
instance : Siz Try.prog 5 1 := ⟨by kernel_rfl⟩
set_option maxRecDepth 100000 in
instance : Zer Try.prog 5 [.int .u8 0] := ⟨(.int .u8 0), by kernel_rfl, rfl⟩
instance : One Try.prog 6 := ⟨⟨_, Try.underlying6, rfl⟩, by kernel_rfl⟩
instance : Siz Try.prog 6 1 := ⟨by kernel_rfl⟩
set_option maxRecDepth 100000 in
instance : Zer Try.prog 6 [.int .u8 0] := ⟨(.int .u8 0), by kernel_rfl, rfl⟩
instance : Siz Try.prog 7 4 := ⟨by kernel_rfl⟩
instance : Agg Try.prog 7 := ⟨_, Try.underlying7, rfl⟩
instance : Siz Try.prog 8 4 := ⟨by kernel_rfl⟩
instance : Agg Try.prog 8 := ⟨_, Try.underlying8, rfl⟩
instance : One Try.prog 9 := ⟨⟨_, Try.underlying9, rfl⟩, by kernel_rfl⟩
instance : Siz Try.prog 9 1 := ⟨by kernel_rfl⟩
set_option maxRecDepth 100000 in
instance : Zer Try.prog 9 [.string ByteArray.empty] := ⟨(.string ByteArray.empty), by kernel_rfl, rfl⟩
instance : One Try.prog 10 := ⟨⟨_, Try.underlying10, rfl⟩, by kernel_rfl⟩
instance : Siz Try.prog 10 1 := ⟨by kernel_rfl⟩
set_option maxRecDepth 100000 in
instance : Zer Try.prog 10 [.string ByteArray.empty] := ⟨(.string ByteArray.empty), by kernel_rfl, rfl⟩
instance : One Try.prog 11 := ⟨⟨_, Try.underlying11, rfl⟩, by kernel_rfl⟩
instance : Siz Try.prog 11 1 := ⟨by kernel_rfl⟩
set_option maxRecDepth 100000 in
instance : Zer Try.prog 11 [.string ByteArray.empty] := ⟨(.string ByteArray.empty), by kernel_rfl, rfl⟩
instance : One Try.prog 12 := ⟨⟨_, Try.underlying12, rfl⟩, by kernel_rfl⟩
instance : Siz Try.prog 12 1 := ⟨by kernel_rfl⟩
set_option maxRecDepth 100000 in
instance : Zer Try.prog 12 [.int .u64 0] := ⟨(.int .u64 0), by kernel_rfl, rfl⟩
instance : Siz Try.prog 13 2 := ⟨by kernel_rfl⟩
instance : Agg Try.prog 13 := ⟨_, Try.underlying13, rfl⟩
instance : Siz Try.prog 14 2 := ⟨by kernel_rfl⟩
instance : Agg Try.prog 14 := ⟨_, Try.underlying14, rfl⟩
instance : One Try.prog 15 := ⟨⟨_, Try.underlying15, rfl⟩, by kernel_rfl⟩
instance : Siz Try.prog 15 1 := ⟨by kernel_rfl⟩
set_option maxRecDepth 100000 in
instance : Zer Try.prog 15 [.pointer none] := ⟨(.pointer none), by kernel_rfl, rfl⟩
instance : One Try.prog 16 := ⟨⟨_, Try.underlying16, rfl⟩, by kernel_rfl⟩
instance : Siz Try.prog 16 1 := ⟨by kernel_rfl⟩
set_option maxRecDepth 100000 in
instance : Zer Try.prog 16 [.pointer none] := ⟨(.pointer none), by kernel_rfl, rfl⟩
instance : One Try.prog 17 := ⟨⟨_, Try.underlying17, rfl⟩, by kernel_rfl⟩
instance : Siz Try.prog 17 1 := ⟨by kernel_rfl⟩
set_option maxRecDepth 100000 in
instance : Zer Try.prog 17 [.pointer none] := ⟨(.pointer none), by kernel_rfl, rfl⟩
instance : Siz Try.prog 18 1 := ⟨by kernel_rfl⟩
instance : Agg Try.prog 18 := ⟨_, Try.underlying18, rfl⟩
instance : Siz Try.prog 19 1 := ⟨by kernel_rfl⟩
instance : Agg Try.prog 19 := ⟨_, Try.underlying19, rfl⟩
instance : One Try.prog 20 := ⟨⟨_, Try.underlying20, rfl⟩, by kernel_rfl⟩
instance : Siz Try.prog 20 1 := ⟨by kernel_rfl⟩
set_option maxRecDepth 100000 in
instance : Zer Try.prog 20 [.nilIface] := ⟨.nilIface, by kernel_rfl, rfl⟩
instance : One Try.prog 21 := ⟨⟨_, Try.underlying21, rfl⟩, by kernel_rfl⟩
instance : Siz Try.prog 21 1 := ⟨by kernel_rfl⟩
set_option maxRecDepth 100000 in
instance : Zer Try.prog 21 [.int .i32 0] := ⟨(.int .i32 0), by kernel_rfl, rfl⟩
instance : One Try.prog 22 := ⟨⟨_, Try.underlying22, rfl⟩, by kernel_rfl⟩
instance : Siz Try.prog 22 1 := ⟨by kernel_rfl⟩
set_option maxRecDepth 100000 in
instance : Zer Try.prog 22 [.slice none 0 0] := ⟨(.slice none 0 0), by kernel_rfl, rfl⟩
instance : Elm Try.prog 22 44 34 64 := elm_mk (z := .agg (c_api_Object (u8s (zeros 32)) (.slice none 0 0) (.int .i64 0)).toArray) Try.underlying22 (by kernel_rfl) (by kernel_rfl) (by decide)
instance : One Try.prog 23 := ⟨⟨_, Try.underlying23, rfl⟩, by kernel_rfl⟩
instance : Siz Try.prog 23 1 := ⟨by kernel_rfl⟩
set_option maxRecDepth 100000 in
instance : Zer Try.prog 23 [.slice none 0 0] := ⟨(.slice none 0 0), by kernel_rfl, rfl⟩
instance : Elm Try.prog 23 33 32 32 := elm_mk (z := .agg (u8s (zeros 32)).toArray) Try.underlying23 (by kernel_rfl) (by kernel_rfl) (by decide)
instance : One Try.prog 24 := ⟨⟨_, Try.underlying24, rfl⟩, by kernel_rfl⟩
instance : Siz Try.prog 24 1 := ⟨by kernel_rfl⟩
set_option maxRecDepth 100000 in
instance : Zer Try.prog 24 [.nilFunc] := ⟨.nilFunc, by kernel_rfl, rfl⟩
instance : One Try.prog 25 := ⟨⟨_, Try.underlying25, rfl⟩, by kernel_rfl⟩
instance : Siz Try.prog 25 1 := ⟨by kernel_rfl⟩
set_option maxRecDepth 100000 in
instance : Zer Try.prog 25 [.nilFunc] := ⟨.nilFunc, by kernel_rfl, rfl⟩
instance : One Try.prog 26 := ⟨⟨_, Try.underlying26, rfl⟩, by kernel_rfl⟩
instance : Siz Try.prog 26 1 := ⟨by kernel_rfl⟩
set_option maxRecDepth 100000 in
instance : Zer Try.prog 26 [.slice none 0 0] := ⟨(.slice none 0 0), by kernel_rfl, rfl⟩
instance : Elm Try.prog 26 3 1 8 := elm_mk (z := (.int .i64 0)) Try.underlying26 (by kernel_rfl) (by kernel_rfl) (by decide)
instance : One Try.prog 28 := ⟨⟨_, Try.underlying28, rfl⟩, by kernel_rfl⟩
instance : Siz Try.prog 28 1 := ⟨by kernel_rfl⟩
set_option maxRecDepth 100000 in
instance : Zer Try.prog 28 [.nilFunc] := ⟨.nilFunc, by kernel_rfl, rfl⟩
instance : One Try.prog 29 := ⟨⟨_, Try.underlying29, rfl⟩, by kernel_rfl⟩
instance : Siz Try.prog 29 1 := ⟨by kernel_rfl⟩
set_option maxRecDepth 100000 in
instance : Zer Try.prog 29 [.nilFunc] := ⟨.nilFunc, by kernel_rfl, rfl⟩
instance : One Try.prog 30 := ⟨⟨_, Try.underlying30, rfl⟩, by kernel_rfl⟩
instance : Siz Try.prog 30 1 := ⟨by kernel_rfl⟩
set_option maxRecDepth 100000 in
instance : Zer Try.prog 30 [.nilFunc] := ⟨.nilFunc, by kernel_rfl, rfl⟩
instance : One Try.prog 31 := ⟨⟨_, Try.underlying31, rfl⟩, by kernel_rfl⟩
instance : Siz Try.prog 31 1 := ⟨by kernel_rfl⟩
set_option maxRecDepth 100000 in
instance : Zer Try.prog 31 [.nilFunc] := ⟨.nilFunc, by kernel_rfl, rfl⟩
instance : Siz Try.prog 32 32 := ⟨by kernel_rfl⟩
instance : Agg Try.prog 32 := ⟨_, Try.underlying32, rfl⟩
set_option maxRecDepth 100000 in
instance : Arr8 Try.prog 32 32 := ⟨⟨_, _, Try.underlying32, Try.underlying5, rfl, rfl⟩, by kernel_rfl⟩
set_option maxRecDepth 100000 in
instance : Zer Try.prog 32 (u8s (zeros 32)) := ⟨.agg (u8s (zeros 32)).toArray, by kernel_rfl, rfl⟩
set_option maxRecDepth 100000 in
instance : Blt0 Try.prog 32 (u8s (zeros 32)) := ⟨by kernel_rfl⟩
instance : Siz Try.prog 33 32 := ⟨by kernel_rfl⟩
instance : Agg Try.prog 33 := ⟨_, Try.underlying33, rfl⟩
set_option maxRecDepth 100000 in
instance : Arr8 Try.prog 33 32 := ⟨⟨_, _, Try.underlying33, Try.underlying5, rfl, rfl⟩, by kernel_rfl⟩
set_option maxRecDepth 100000 in
instance : Zer Try.prog 33 (u8s (zeros 32)) := ⟨.agg (u8s (zeros 32)).toArray, by kernel_rfl, rfl⟩
set_option maxRecDepth 100000 in
instance : Blt0 Try.prog 33 (u8s (zeros 32)) := ⟨by kernel_rfl⟩
instance : One Try.prog 34 := ⟨⟨_, Try.underlying34, rfl⟩, by kernel_rfl⟩
instance : Siz Try.prog 34 1 := ⟨by kernel_rfl⟩
set_option maxRecDepth 100000 in
instance : Zer Try.prog 34 [.nilFunc] := ⟨.nilFunc, by kernel_rfl, rfl⟩
instance : One Try.prog 35 := ⟨⟨_, Try.underlying35, rfl⟩, by kernel_rfl⟩
instance : Siz Try.prog 35 1 := ⟨by kernel_rfl⟩
set_option maxRecDepth 100000 in
instance : Zer Try.prog 35 [.nilFunc] := ⟨.nilFunc, by kernel_rfl, rfl⟩
instance : One Try.prog 36 := ⟨⟨_, Try.underlying36, rfl⟩, by kernel_rfl⟩
instance : Siz Try.prog 36 1 := ⟨by kernel_rfl⟩
set_option maxRecDepth 100000 in
instance : Zer Try.prog 36 [.nilFunc] := ⟨.nilFunc, by kernel_rfl, rfl⟩
instance : One Try.prog 37 := ⟨⟨_, Try.underlying37, rfl⟩, by kernel_rfl⟩
instance : Siz Try.prog 37 1 := ⟨by kernel_rfl⟩
set_option maxRecDepth 100000 in
instance : Zer Try.prog 37 [.nilFunc] := ⟨.nilFunc, by kernel_rfl, rfl⟩
instance : One Try.prog 39 := ⟨⟨_, Try.underlying39, rfl⟩, by kernel_rfl⟩
instance : Siz Try.prog 39 1 := ⟨by kernel_rfl⟩
set_option maxRecDepth 100000 in
instance : Zer Try.prog 39 [.nilFunc] := ⟨.nilFunc, by kernel_rfl, rfl⟩
instance : One Try.prog 40 := ⟨⟨_, Try.underlying40, rfl⟩, by kernel_rfl⟩
instance : Siz Try.prog 40 1 := ⟨by kernel_rfl⟩
set_option maxRecDepth 100000 in
instance : Zer Try.prog 40 [.nilFunc] := ⟨.nilFunc, by kernel_rfl, rfl⟩
instance : One Try.prog 41 := ⟨⟨_, Try.underlying41, rfl⟩, by kernel_rfl⟩
instance : Siz Try.prog 41 1 := ⟨by kernel_rfl⟩
set_option maxRecDepth 100000 in
instance : Zer Try.prog 41 [.nilFunc] := ⟨.nilFunc, by kernel_rfl, rfl⟩
instance : One Try.prog 42 := ⟨⟨_, Try.underlying42, rfl⟩, by kernel_rfl⟩
instance : Siz Try.prog 42 1 := ⟨by kernel_rfl⟩
set_option maxRecDepth 100000 in
instance : Zer Try.prog 42 [.nilFunc] := ⟨.nilFunc, by kernel_rfl, rfl⟩
instance : Siz Try.prog 43 34 := ⟨by kernel_rfl⟩
instance : Agg Try.prog 43 := ⟨_, Try.underlying43, rfl⟩
set_option maxRecDepth 100000 in
instance : Zer Try.prog 43 (c_api_Object (u8s (zeros 32)) (.slice none 0 0) (.int .i64 0)) := ⟨.agg (c_api_Object (u8s (zeros 32)) (.slice none 0 0) (.int .i64 0)).toArray, by kernel_rfl, rfl⟩
set_option maxRecDepth 100000 in
instance : Blt0 Try.prog 43 (c_api_Object (u8s (zeros 32)) (.slice none 0 0) (.int .i64 0)) := ⟨by kernel_rfl⟩
set_option maxRecDepth 100000 in
instance : Places Try.prog 43 [(0, 32), (32, 1), (33, 1)] (c_api_Object (u8s (zeros 32)) (.slice none 0 0) (.int .i64 0)) := ⟨fun parts => by kernel_rfl⟩
instance : Siz Try.prog 44 34 := ⟨by kernel_rfl⟩
instance : Agg Try.prog 44 := ⟨_, Try.underlying44, rfl⟩
set_option maxRecDepth 100000 in
instance : Zer Try.prog 44 (c_api_Object (u8s (zeros 32)) (.slice none 0 0) (.int .i64 0)) := ⟨.agg (c_api_Object (u8s (zeros 32)) (.slice none 0 0) (.int .i64 0)).toArray, by kernel_rfl, rfl⟩
set_option maxRecDepth 100000 in
instance : Blt0 Try.prog 44 (c_api_Object (u8s (zeros 32)) (.slice none 0 0) (.int .i64 0)) := ⟨by kernel_rfl⟩
set_option maxRecDepth 100000 in
instance : Places Try.prog 44 [(0, 32), (32, 1), (33, 1)] (c_api_Object (u8s (zeros 32)) (.slice none 0 0) (.int .i64 0)) := ⟨fun parts => by kernel_rfl⟩
instance : One Try.prog 46 := ⟨⟨_, Try.underlying46, rfl⟩, by kernel_rfl⟩
instance : Siz Try.prog 46 1 := ⟨by kernel_rfl⟩
set_option maxRecDepth 100000 in
instance : Zer Try.prog 46 [.nilFunc] := ⟨.nilFunc, by kernel_rfl, rfl⟩
instance : One Try.prog 47 := ⟨⟨_, Try.underlying47, rfl⟩, by kernel_rfl⟩
instance : Siz Try.prog 47 1 := ⟨by kernel_rfl⟩
set_option maxRecDepth 100000 in
instance : Zer Try.prog 47 [.slice none 0 0] := ⟨(.slice none 0 0), by kernel_rfl, rfl⟩
instance : Elm Try.prog 47 75 34 64 := elm_mk (z := .agg (c_api_Rev (u8s (zeros 32)) (.slice none 0 0) (.int .u64 0)).toArray) Try.underlying47 (by kernel_rfl) (by kernel_rfl) (by decide)
instance : One Try.prog 48 := ⟨⟨_, Try.underlying48, rfl⟩, by kernel_rfl⟩
instance : Siz Try.prog 48 1 := ⟨by kernel_rfl⟩
set_option maxRecDepth 100000 in
instance : Zer Try.prog 48 [.nilFunc] := ⟨.nilFunc, by kernel_rfl, rfl⟩
instance : One Try.prog 49 := ⟨⟨_, Try.underlying49, rfl⟩, by kernel_rfl⟩
instance : Siz Try.prog 49 1 := ⟨by kernel_rfl⟩
set_option maxRecDepth 100000 in
instance : Zer Try.prog 49 [.nilFunc] := ⟨.nilFunc, by kernel_rfl, rfl⟩
instance : One Try.prog 51 := ⟨⟨_, Try.underlying51, rfl⟩, by kernel_rfl⟩
instance : Siz Try.prog 51 1 := ⟨by kernel_rfl⟩
set_option maxRecDepth 100000 in
instance : Zer Try.prog 51 [.nilFunc] := ⟨.nilFunc, by kernel_rfl, rfl⟩
instance : One Try.prog 52 := ⟨⟨_, Try.underlying52, rfl⟩, by kernel_rfl⟩
instance : Siz Try.prog 52 1 := ⟨by kernel_rfl⟩
set_option maxRecDepth 100000 in
instance : Zer Try.prog 52 [.nilFunc] := ⟨.nilFunc, by kernel_rfl, rfl⟩
instance : One Try.prog 53 := ⟨⟨_, Try.underlying53, rfl⟩, by kernel_rfl⟩
instance : Siz Try.prog 53 1 := ⟨by kernel_rfl⟩
set_option maxRecDepth 100000 in
instance : Zer Try.prog 53 [.nilFunc] := ⟨.nilFunc, by kernel_rfl, rfl⟩
instance : One Try.prog 54 := ⟨⟨_, Try.underlying54, rfl⟩, by kernel_rfl⟩
instance : Siz Try.prog 54 1 := ⟨by kernel_rfl⟩
set_option maxRecDepth 100000 in
instance : Zer Try.prog 54 [.nilFunc] := ⟨.nilFunc, by kernel_rfl, rfl⟩
instance : One Try.prog 55 := ⟨⟨_, Try.underlying55, rfl⟩, by kernel_rfl⟩
instance : Siz Try.prog 55 1 := ⟨by kernel_rfl⟩
set_option maxRecDepth 100000 in
instance : Zer Try.prog 55 [.nilFunc] := ⟨.nilFunc, by kernel_rfl, rfl⟩
instance : One Try.prog 56 := ⟨⟨_, Try.underlying56, rfl⟩, by kernel_rfl⟩
instance : Siz Try.prog 56 1 := ⟨by kernel_rfl⟩
set_option maxRecDepth 100000 in
instance : Zer Try.prog 56 [.nilFunc] := ⟨.nilFunc, by kernel_rfl, rfl⟩
instance : One Try.prog 57 := ⟨⟨_, Try.underlying57, rfl⟩, by kernel_rfl⟩
instance : Siz Try.prog 57 1 := ⟨by kernel_rfl⟩
set_option maxRecDepth 100000 in
instance : Zer Try.prog 57 [.nilFunc] := ⟨.nilFunc, by kernel_rfl, rfl⟩
instance : One Try.prog 58 := ⟨⟨_, Try.underlying58, rfl⟩, by kernel_rfl⟩
instance : Siz Try.prog 58 1 := ⟨by kernel_rfl⟩
set_option maxRecDepth 100000 in
instance : Zer Try.prog 58 [.nilFunc] := ⟨.nilFunc, by kernel_rfl, rfl⟩
instance : One Try.prog 59 := ⟨⟨_, Try.underlying59, rfl⟩, by kernel_rfl⟩
instance : Siz Try.prog 59 1 := ⟨by kernel_rfl⟩
set_option maxRecDepth 100000 in
instance : Zer Try.prog 59 [.nilFunc] := ⟨.nilFunc, by kernel_rfl, rfl⟩
instance : One Try.prog 60 := ⟨⟨_, Try.underlying60, rfl⟩, by kernel_rfl⟩
instance : Siz Try.prog 60 1 := ⟨by kernel_rfl⟩
set_option maxRecDepth 100000 in
instance : Zer Try.prog 60 [.nilFunc] := ⟨.nilFunc, by kernel_rfl, rfl⟩
instance : One Try.prog 61 := ⟨⟨_, Try.underlying61, rfl⟩, by kernel_rfl⟩
instance : Siz Try.prog 61 1 := ⟨by kernel_rfl⟩
set_option maxRecDepth 100000 in
instance : Zer Try.prog 61 [.nilFunc] := ⟨.nilFunc, by kernel_rfl, rfl⟩
instance : One Try.prog 62 := ⟨⟨_, Try.underlying62, rfl⟩, by kernel_rfl⟩
instance : Siz Try.prog 62 1 := ⟨by kernel_rfl⟩
set_option maxRecDepth 100000 in
instance : Zer Try.prog 62 [.map none] := ⟨(.map none), by kernel_rfl, rfl⟩
instance : One Try.prog 63 := ⟨⟨_, Try.underlying63, rfl⟩, by kernel_rfl⟩
instance : Siz Try.prog 63 1 := ⟨by kernel_rfl⟩
set_option maxRecDepth 100000 in
instance : Zer Try.prog 63 [.nilFunc] := ⟨.nilFunc, by kernel_rfl, rfl⟩
instance : One Try.prog 64 := ⟨⟨_, Try.underlying64, rfl⟩, by kernel_rfl⟩
instance : Siz Try.prog 64 1 := ⟨by kernel_rfl⟩
set_option maxRecDepth 100000 in
instance : Zer Try.prog 64 [.map none] := ⟨(.map none), by kernel_rfl, rfl⟩
instance : One Try.prog 65 := ⟨⟨_, Try.underlying65, rfl⟩, by kernel_rfl⟩
instance : Siz Try.prog 65 1 := ⟨by kernel_rfl⟩
set_option maxRecDepth 100000 in
instance : Zer Try.prog 65 [.nilFunc] := ⟨.nilFunc, by kernel_rfl, rfl⟩
instance : One Try.prog 67 := ⟨⟨_, Try.underlying67, rfl⟩, by kernel_rfl⟩
instance : Siz Try.prog 67 1 := ⟨by kernel_rfl⟩
set_option maxRecDepth 100000 in
instance : Zer Try.prog 67 [.nilFunc] := ⟨.nilFunc, by kernel_rfl, rfl⟩
instance : One Try.prog 68 := ⟨⟨_, Try.underlying68, rfl⟩, by kernel_rfl⟩
instance : Siz Try.prog 68 1 := ⟨by kernel_rfl⟩
set_option maxRecDepth 100000 in
instance : Zer Try.prog 68 [.pointer none] := ⟨(.pointer none), by kernel_rfl, rfl⟩
instance : One Try.prog 69 := ⟨⟨_, Try.underlying69, rfl⟩, by kernel_rfl⟩
instance : Siz Try.prog 69 1 := ⟨by kernel_rfl⟩
set_option maxRecDepth 100000 in
instance : Zer Try.prog 69 [.slice none 0 0] := ⟨(.slice none 0 0), by kernel_rfl, rfl⟩
instance : Elm Try.prog 69 4 1 1 := elm_mk (z := (.bool false)) Try.underlying69 (by kernel_rfl) (by kernel_rfl) (by decide)
instance : Siz Try.prog 70 4 := ⟨by kernel_rfl⟩
instance : Agg Try.prog 70 := ⟨_, Try.underlying70, rfl⟩
set_option maxRecDepth 100000 in
instance : Zer Try.prog 70 (c_mark_placing (.slice none 0 0) (.map none) (.map none) (.slice none 0 0)) := ⟨.agg (c_mark_placing (.slice none 0 0) (.map none) (.map none) (.slice none 0 0)).toArray, by kernel_rfl, rfl⟩
set_option maxRecDepth 100000 in
instance : Blt0 Try.prog 70 (c_mark_placing (.slice none 0 0) (.map none) (.map none) (.slice none 0 0)) := ⟨by kernel_rfl⟩
set_option maxRecDepth 100000 in
instance : Places Try.prog 70 [(0, 1), (1, 1), (2, 1), (3, 1)] (c_mark_placing (.slice none 0 0) (.map none) (.map none) (.slice none 0 0)) := ⟨fun parts => by kernel_rfl⟩
instance : Siz Try.prog 71 4 := ⟨by kernel_rfl⟩
instance : Agg Try.prog 71 := ⟨_, Try.underlying71, rfl⟩
set_option maxRecDepth 100000 in
instance : Zer Try.prog 71 (c_mark_placing (.slice none 0 0) (.map none) (.map none) (.slice none 0 0)) := ⟨.agg (c_mark_placing (.slice none 0 0) (.map none) (.map none) (.slice none 0 0)).toArray, by kernel_rfl, rfl⟩
set_option maxRecDepth 100000 in
instance : Blt0 Try.prog 71 (c_mark_placing (.slice none 0 0) (.map none) (.map none) (.slice none 0 0)) := ⟨by kernel_rfl⟩
set_option maxRecDepth 100000 in
instance : Places Try.prog 71 [(0, 1), (1, 1), (2, 1), (3, 1)] (c_mark_placing (.slice none 0 0) (.map none) (.map none) (.slice none 0 0)) := ⟨fun parts => by kernel_rfl⟩
instance : One Try.prog 72 := ⟨⟨_, Try.underlying72, rfl⟩, by kernel_rfl⟩
instance : Siz Try.prog 72 1 := ⟨by kernel_rfl⟩
set_option maxRecDepth 100000 in
instance : Zer Try.prog 72 [.nilFunc] := ⟨.nilFunc, by kernel_rfl, rfl⟩
instance : One Try.prog 73 := ⟨⟨_, Try.underlying73, rfl⟩, by kernel_rfl⟩
instance : Siz Try.prog 73 1 := ⟨by kernel_rfl⟩
set_option maxRecDepth 100000 in
instance : Zer Try.prog 73 [.int .u64 0] := ⟨(.int .u64 0), by kernel_rfl, rfl⟩
instance : Siz Try.prog 74 34 := ⟨by kernel_rfl⟩
instance : Agg Try.prog 74 := ⟨_, Try.underlying74, rfl⟩
set_option maxRecDepth 100000 in
instance : Zer Try.prog 74 (c_api_Rev (u8s (zeros 32)) (.slice none 0 0) (.int .u64 0)) := ⟨.agg (c_api_Rev (u8s (zeros 32)) (.slice none 0 0) (.int .u64 0)).toArray, by kernel_rfl, rfl⟩
set_option maxRecDepth 100000 in
instance : Blt0 Try.prog 74 (c_api_Rev (u8s (zeros 32)) (.slice none 0 0) (.int .u64 0)) := ⟨by kernel_rfl⟩
set_option maxRecDepth 100000 in
instance : Places Try.prog 74 [(0, 32), (32, 1), (33, 1)] (c_api_Rev (u8s (zeros 32)) (.slice none 0 0) (.int .u64 0)) := ⟨fun parts => by kernel_rfl⟩
instance : Siz Try.prog 75 34 := ⟨by kernel_rfl⟩
instance : Agg Try.prog 75 := ⟨_, Try.underlying75, rfl⟩
set_option maxRecDepth 100000 in
instance : Zer Try.prog 75 (c_api_Rev (u8s (zeros 32)) (.slice none 0 0) (.int .u64 0)) := ⟨.agg (c_api_Rev (u8s (zeros 32)) (.slice none 0 0) (.int .u64 0)).toArray, by kernel_rfl, rfl⟩
set_option maxRecDepth 100000 in
instance : Blt0 Try.prog 75 (c_api_Rev (u8s (zeros 32)) (.slice none 0 0) (.int .u64 0)) := ⟨by kernel_rfl⟩
set_option maxRecDepth 100000 in
instance : Places Try.prog 75 [(0, 32), (32, 1), (33, 1)] (c_api_Rev (u8s (zeros 32)) (.slice none 0 0) (.int .u64 0)) := ⟨fun parts => by kernel_rfl⟩
instance : One Try.prog 76 := ⟨⟨_, Try.underlying76, rfl⟩, by kernel_rfl⟩
instance : Siz Try.prog 76 1 := ⟨by kernel_rfl⟩
set_option maxRecDepth 100000 in
instance : Zer Try.prog 76 [.map none] := ⟨(.map none), by kernel_rfl, rfl⟩
instance : One Try.prog 77 := ⟨⟨_, Try.underlying77, rfl⟩, by kernel_rfl⟩
instance : Siz Try.prog 77 1 := ⟨by kernel_rfl⟩
set_option maxRecDepth 100000 in
instance : Zer Try.prog 77 [.map none] := ⟨(.map none), by kernel_rfl, rfl⟩
instance : One Try.prog 78 := ⟨⟨_, Try.underlying78, rfl⟩, by kernel_rfl⟩
instance : Siz Try.prog 78 1 := ⟨by kernel_rfl⟩
set_option maxRecDepth 100000 in
instance : Zer Try.prog 78 [.nilFunc] := ⟨.nilFunc, by kernel_rfl, rfl⟩
instance : One Try.prog 79 := ⟨⟨_, Try.underlying79, rfl⟩, by kernel_rfl⟩
instance : Siz Try.prog 79 1 := ⟨by kernel_rfl⟩
set_option maxRecDepth 100000 in
instance : Zer Try.prog 79 [.nilFunc] := ⟨.nilFunc, by kernel_rfl, rfl⟩
instance : One Try.prog 80 := ⟨⟨_, Try.underlying80, rfl⟩, by kernel_rfl⟩
instance : Siz Try.prog 80 1 := ⟨by kernel_rfl⟩
set_option maxRecDepth 100000 in
instance : Zer Try.prog 80 [.map none] := ⟨(.map none), by kernel_rfl, rfl⟩
instance : One Try.prog 81 := ⟨⟨_, Try.underlying81, rfl⟩, by kernel_rfl⟩
instance : Siz Try.prog 81 1 := ⟨by kernel_rfl⟩
set_option maxRecDepth 100000 in
instance : Zer Try.prog 81 [.nilFunc] := ⟨.nilFunc, by kernel_rfl, rfl⟩
instance : One Try.prog 82 := ⟨⟨_, Try.underlying82, rfl⟩, by kernel_rfl⟩
instance : Siz Try.prog 82 1 := ⟨by kernel_rfl⟩
set_option maxRecDepth 100000 in
instance : Zer Try.prog 82 [.nilFunc] := ⟨.nilFunc, by kernel_rfl, rfl⟩
instance : One Try.prog 83 := ⟨⟨_, Try.underlying83, rfl⟩, by kernel_rfl⟩
instance : Siz Try.prog 83 1 := ⟨by kernel_rfl⟩
set_option maxRecDepth 100000 in
instance : Zer Try.prog 83 [.nilFunc] := ⟨.nilFunc, by kernel_rfl, rfl⟩
instance : One Try.prog 84 := ⟨⟨_, Try.underlying84, rfl⟩, by kernel_rfl⟩
instance : Siz Try.prog 84 1 := ⟨by kernel_rfl⟩
set_option maxRecDepth 100000 in
instance : Zer Try.prog 84 [.nilFunc] := ⟨.nilFunc, by kernel_rfl, rfl⟩
instance : One Try.prog 85 := ⟨⟨_, Try.underlying85, rfl⟩, by kernel_rfl⟩
instance : Siz Try.prog 85 1 := ⟨by kernel_rfl⟩
set_option maxRecDepth 100000 in
instance : Zer Try.prog 85 [.nilFunc] := ⟨.nilFunc, by kernel_rfl, rfl⟩
instance : One Try.prog 86 := ⟨⟨_, Try.underlying86, rfl⟩, by kernel_rfl⟩
instance : Siz Try.prog 86 1 := ⟨by kernel_rfl⟩
set_option maxRecDepth 100000 in
instance : Zer Try.prog 86 [.nilFunc] := ⟨.nilFunc, by kernel_rfl, rfl⟩
instance : One Try.prog 87 := ⟨⟨_, Try.underlying87, rfl⟩, by kernel_rfl⟩
instance : Siz Try.prog 87 1 := ⟨by kernel_rfl⟩
set_option maxRecDepth 100000 in
instance : Zer Try.prog 87 [.nilFunc] := ⟨.nilFunc, by kernel_rfl, rfl⟩
instance : One Try.prog 89 := ⟨⟨_, Try.underlying89, rfl⟩, by kernel_rfl⟩
instance : Siz Try.prog 89 1 := ⟨by kernel_rfl⟩
set_option maxRecDepth 100000 in
instance : Zer Try.prog 89 [.nilFunc] := ⟨.nilFunc, by kernel_rfl, rfl⟩
instance : One Try.prog 90 := ⟨⟨_, Try.underlying90, rfl⟩, by kernel_rfl⟩
instance : Siz Try.prog 90 1 := ⟨by kernel_rfl⟩
set_option maxRecDepth 100000 in
instance : Zer Try.prog 90 [.nilFunc] := ⟨.nilFunc, by kernel_rfl, rfl⟩
instance : One Try.prog 91 := ⟨⟨_, Try.underlying91, rfl⟩, by kernel_rfl⟩
instance : Siz Try.prog 91 1 := ⟨by kernel_rfl⟩
set_option maxRecDepth 100000 in
instance : Zer Try.prog 91 [.nilFunc] := ⟨.nilFunc, by kernel_rfl, rfl⟩
instance : One Try.prog 92 := ⟨⟨_, Try.underlying92, rfl⟩, by kernel_rfl⟩
instance : Siz Try.prog 92 1 := ⟨by kernel_rfl⟩
set_option maxRecDepth 100000 in
instance : Zer Try.prog 92 [.slice none 0 0] := ⟨(.slice none 0 0), by kernel_rfl, rfl⟩
instance : Elm Try.prog 92 5 1 1 := elm_mk (z := (.int .u8 0)) Try.underlying92 (by kernel_rfl) (by kernel_rfl) (by decide)
instance : One Try.prog 93 := ⟨⟨_, Try.underlying93, rfl⟩, by kernel_rfl⟩
instance : Siz Try.prog 93 1 := ⟨by kernel_rfl⟩
set_option maxRecDepth 100000 in
instance : Zer Try.prog 93 [.nilFunc] := ⟨.nilFunc, by kernel_rfl, rfl⟩
instance : One Try.prog 94 := ⟨⟨_, Try.underlying94, rfl⟩, by kernel_rfl⟩
instance : Siz Try.prog 94 1 := ⟨by kernel_rfl⟩
set_option maxRecDepth 100000 in
instance : Zer Try.prog 94 [.nilFunc] := ⟨.nilFunc, by kernel_rfl, rfl⟩
instance : One Try.prog 95 := ⟨⟨_, Try.underlying95, rfl⟩, by kernel_rfl⟩
instance : Siz Try.prog 95 1 := ⟨by kernel_rfl⟩
set_option maxRecDepth 100000 in
instance : Zer Try.prog 95 [.nilFunc] := ⟨.nilFunc, by kernel_rfl, rfl⟩
instance : One Try.prog 96 := ⟨⟨_, Try.underlying96, rfl⟩, by kernel_rfl⟩
instance : Siz Try.prog 96 1 := ⟨by kernel_rfl⟩
set_option maxRecDepth 100000 in
instance : Zer Try.prog 96 [.nilFunc] := ⟨.nilFunc, by kernel_rfl, rfl⟩
instance : One Try.prog 97 := ⟨⟨_, Try.underlying97, rfl⟩, by kernel_rfl⟩
instance : Siz Try.prog 97 1 := ⟨by kernel_rfl⟩
set_option maxRecDepth 100000 in
instance : Zer Try.prog 97 [.nilFunc] := ⟨.nilFunc, by kernel_rfl, rfl⟩
instance : One Try.prog 98 := ⟨⟨_, Try.underlying98, rfl⟩, by kernel_rfl⟩
instance : Siz Try.prog 98 1 := ⟨by kernel_rfl⟩
set_option maxRecDepth 100000 in
instance : Zer Try.prog 98 [.nilFunc] := ⟨.nilFunc, by kernel_rfl, rfl⟩
instance : One Try.prog 99 := ⟨⟨_, Try.underlying99, rfl⟩, by kernel_rfl⟩
instance : Siz Try.prog 99 1 := ⟨by kernel_rfl⟩
set_option maxRecDepth 100000 in
instance : Zer Try.prog 99 [.int .u64 0] := ⟨(.int .u64 0), by kernel_rfl, rfl⟩
instance : One Try.prog 100 := ⟨⟨_, Try.underlying100, rfl⟩, by kernel_rfl⟩
instance : Siz Try.prog 100 1 := ⟨by kernel_rfl⟩
set_option maxRecDepth 100000 in
instance : Zer Try.prog 100 [.nilFunc] := ⟨.nilFunc, by kernel_rfl, rfl⟩
instance : One Try.prog 101 := ⟨⟨_, Try.underlying101, rfl⟩, by kernel_rfl⟩
instance : Siz Try.prog 101 1 := ⟨by kernel_rfl⟩
set_option maxRecDepth 100000 in
instance : Zer Try.prog 101 [.nilFunc] := ⟨.nilFunc, by kernel_rfl, rfl⟩
instance : One Try.prog 102 := ⟨⟨_, Try.underlying102, rfl⟩, by kernel_rfl⟩
instance : Siz Try.prog 102 1 := ⟨by kernel_rfl⟩
set_option maxRecDepth 100000 in
instance : Zer Try.prog 102 [.nilFunc] := ⟨.nilFunc, by kernel_rfl, rfl⟩
instance : One Try.prog 103 := ⟨⟨_, Try.underlying103, rfl⟩, by kernel_rfl⟩
instance : Siz Try.prog 103 1 := ⟨by kernel_rfl⟩
set_option maxRecDepth 100000 in
instance : Zer Try.prog 103 [.nilFunc] := ⟨.nilFunc, by kernel_rfl, rfl⟩
instance : One Try.prog 104 := ⟨⟨_, Try.underlying104, rfl⟩, by kernel_rfl⟩
instance : Siz Try.prog 104 1 := ⟨by kernel_rfl⟩
set_option maxRecDepth 100000 in
instance : Zer Try.prog 104 [.int .i64 0] := ⟨(.int .i64 0), by kernel_rfl, rfl⟩
instance : One Try.prog 106 := ⟨⟨_, Try.underlying106, rfl⟩, by kernel_rfl⟩
instance : Siz Try.prog 106 1 := ⟨by kernel_rfl⟩
set_option maxRecDepth 100000 in
instance : Zer Try.prog 106 [.nilFunc] := ⟨.nilFunc, by kernel_rfl, rfl⟩
instance : One Try.prog 107 := ⟨⟨_, Try.underlying107, rfl⟩, by kernel_rfl⟩
instance : Siz Try.prog 107 1 := ⟨by kernel_rfl⟩
set_option maxRecDepth 100000 in
instance : Zer Try.prog 107 [.nilFunc] := ⟨.nilFunc, by kernel_rfl, rfl⟩
instance : One Try.prog 108 := ⟨⟨_, Try.underlying108, rfl⟩, by kernel_rfl⟩
instance : Siz Try.prog 108 1 := ⟨by kernel_rfl⟩
set_option maxRecDepth 100000 in
instance : Zer Try.prog 108 [.nilFunc] := ⟨.nilFunc, by kernel_rfl, rfl⟩
instance : One Try.prog 109 := ⟨⟨_, Try.underlying109, rfl⟩, by kernel_rfl⟩
instance : Siz Try.prog 109 1 := ⟨by kernel_rfl⟩
set_option maxRecDepth 100000 in
instance : Zer Try.prog 109 [.nilFunc] := ⟨.nilFunc, by kernel_rfl, rfl⟩
instance : One Try.prog 110 := ⟨⟨_, Try.underlying110, rfl⟩, by kernel_rfl⟩
instance : Siz Try.prog 110 1 := ⟨by kernel_rfl⟩
set_option maxRecDepth 100000 in
instance : Zer Try.prog 110 [.nilFunc] := ⟨.nilFunc, by kernel_rfl, rfl⟩
instance : One Try.prog 111 := ⟨⟨_, Try.underlying111, rfl⟩, by kernel_rfl⟩
instance : Siz Try.prog 111 1 := ⟨by kernel_rfl⟩
set_option maxRecDepth 100000 in
instance : Zer Try.prog 111 [.int .u32 0] := ⟨(.int .u32 0), by kernel_rfl, rfl⟩
instance : One Try.prog 112 := ⟨⟨_, Try.underlying112, rfl⟩, by kernel_rfl⟩
instance : Siz Try.prog 112 1 := ⟨by kernel_rfl⟩
set_option maxRecDepth 100000 in
instance : Zer Try.prog 112 [.nilFunc] := ⟨.nilFunc, by kernel_rfl, rfl⟩
instance : One Try.prog 113 := ⟨⟨_, Try.underlying113, rfl⟩, by kernel_rfl⟩
instance : Siz Try.prog 113 1 := ⟨by kernel_rfl⟩
set_option maxRecDepth 100000 in
instance : Zer Try.prog 113 [.nilFunc] := ⟨.nilFunc, by kernel_rfl, rfl⟩
instance : One Try.prog 114 := ⟨⟨_, Try.underlying114, rfl⟩, by kernel_rfl⟩
instance : Siz Try.prog 114 1 := ⟨by kernel_rfl⟩
set_option maxRecDepth 100000 in
instance : Zer Try.prog 114 [.nilFunc] := ⟨.nilFunc, by kernel_rfl, rfl⟩
instance : One Try.prog 115 := ⟨⟨_, Try.underlying115, rfl⟩, by kernel_rfl⟩
instance : Siz Try.prog 115 1 := ⟨by kernel_rfl⟩
set_option maxRecDepth 100000 in
instance : Zer Try.prog 115 [.int .u64 0] := ⟨(.int .u64 0), by kernel_rfl, rfl⟩
instance : One Try.prog 116 := ⟨⟨_, Try.underlying116, rfl⟩, by kernel_rfl⟩
instance : Siz Try.prog 116 1 := ⟨by kernel_rfl⟩
set_option maxRecDepth 100000 in
instance : Zer Try.prog 116 [.nilFunc] := ⟨.nilFunc, by kernel_rfl, rfl⟩
instance : One Try.prog 117 := ⟨⟨_, Try.underlying117, rfl⟩, by kernel_rfl⟩
instance : Siz Try.prog 117 1 := ⟨by kernel_rfl⟩
set_option maxRecDepth 100000 in
instance : Zer Try.prog 117 [.nilFunc] := ⟨.nilFunc, by kernel_rfl, rfl⟩
instance : One Try.prog 118 := ⟨⟨_, Try.underlying118, rfl⟩, by kernel_rfl⟩
instance : Siz Try.prog 118 1 := ⟨by kernel_rfl⟩
set_option maxRecDepth 100000 in
instance : Zer Try.prog 118 [.nilFunc] := ⟨.nilFunc, by kernel_rfl, rfl⟩
instance : One Try.prog 119 := ⟨⟨_, Try.underlying119, rfl⟩, by kernel_rfl⟩
instance : Siz Try.prog 119 1 := ⟨by kernel_rfl⟩
set_option maxRecDepth 100000 in
instance : Zer Try.prog 119 [.pointer none] := ⟨(.pointer none), by kernel_rfl, rfl⟩
instance : One Try.prog 120 := ⟨⟨_, Try.underlying120, rfl⟩, by kernel_rfl⟩
instance : Siz Try.prog 120 1 := ⟨by kernel_rfl⟩
set_option maxRecDepth 100000 in
instance : Zer Try.prog 120 [.nilFunc] := ⟨.nilFunc, by kernel_rfl, rfl⟩
instance : One Try.prog 121 := ⟨⟨_, Try.underlying121, rfl⟩, by kernel_rfl⟩
instance : Siz Try.prog 121 1 := ⟨by kernel_rfl⟩
set_option maxRecDepth 100000 in
instance : Zer Try.prog 121 [.nilFunc] := ⟨.nilFunc, by kernel_rfl, rfl⟩
instance : One Try.prog 122 := ⟨⟨_, Try.underlying122, rfl⟩, by kernel_rfl⟩
instance : Siz Try.prog 122 1 := ⟨by kernel_rfl⟩
set_option maxRecDepth 100000 in
instance : Zer Try.prog 122 [.pointer none] := ⟨(.pointer none), by kernel_rfl, rfl⟩
instance : One Try.prog 124 := ⟨⟨_, Try.underlying124, rfl⟩, by kernel_rfl⟩
instance : Siz Try.prog 124 1 := ⟨by kernel_rfl⟩
set_option maxRecDepth 100000 in
instance : Zer Try.prog 124 [.nilFunc] := ⟨.nilFunc, by kernel_rfl, rfl⟩
instance : One Try.prog 125 := ⟨⟨_, Try.underlying125, rfl⟩, by kernel_rfl⟩
instance : Siz Try.prog 125 1 := ⟨by kernel_rfl⟩
set_option maxRecDepth 100000 in
instance : Zer Try.prog 125 [.nilFunc] := ⟨.nilFunc, by kernel_rfl, rfl⟩
instance : Siz Try.prog 126 4 := ⟨by kernel_rfl⟩
instance : Agg Try.prog 126 := ⟨_, Try.underlying126, rfl⟩
instance : Siz Try.prog 127 4 := ⟨by kernel_rfl⟩
instance : Agg Try.prog 127 := ⟨_, Try.underlying127, rfl⟩
instance : One Try.prog 131 := ⟨⟨_, Try.underlying131, rfl⟩, by kernel_rfl⟩
instance : Siz Try.prog 131 1 := ⟨by kernel_rfl⟩
set_option maxRecDepth 100000 in
instance : Zer Try.prog 131 [.int .u8 0] := ⟨(.int .u8 0), by kernel_rfl, rfl⟩
instance : One Try.prog 132 := ⟨⟨_, Try.underlying132, rfl⟩, by kernel_rfl⟩
instance : Siz Try.prog 132 1 := ⟨by kernel_rfl⟩
set_option maxRecDepth 100000 in
instance : Zer Try.prog 132 [.int .u8 0] := ⟨(.int .u8 0), by kernel_rfl, rfl⟩
instance : One Try.prog 133 := ⟨⟨_, Try.underlying133, rfl⟩, by kernel_rfl⟩
instance : Siz Try.prog 133 1 := ⟨by kernel_rfl⟩
set_option maxRecDepth 100000 in
instance : Zer Try.prog 133 [.nilFunc] := ⟨.nilFunc, by kernel_rfl, rfl⟩
instance : One Try.prog 134 := ⟨⟨_, Try.underlying134, rfl⟩, by kernel_rfl⟩
instance : Siz Try.prog 134 1 := ⟨by kernel_rfl⟩
set_option maxRecDepth 100000 in
instance : Zer Try.prog 134 [.pointer none] := ⟨(.pointer none), by kernel_rfl, rfl⟩
instance : One Try.prog 135 := ⟨⟨_, Try.underlying135, rfl⟩, by kernel_rfl⟩
instance : Siz Try.prog 135 1 := ⟨by kernel_rfl⟩
set_option maxRecDepth 100000 in
instance : Zer Try.prog 135 [.int .i32 0] := ⟨(.int .i32 0), by kernel_rfl, rfl⟩
instance : One Try.prog 136 := ⟨⟨_, Try.underlying136, rfl⟩, by kernel_rfl⟩
instance : Siz Try.prog 136 1 := ⟨by kernel_rfl⟩
set_option maxRecDepth 100000 in
instance : Zer Try.prog 136 [.int .i32 0] := ⟨(.int .i32 0), by kernel_rfl, rfl⟩
instance : Siz Try.prog 137 11 := ⟨by kernel_rfl⟩
instance : Agg Try.prog 137 := ⟨_, Try.underlying137, rfl⟩
instance : Siz Try.prog 138 11 := ⟨by kernel_rfl⟩
instance : Agg Try.prog 138 := ⟨_, Try.underlying138, rfl⟩
instance : One Try.prog 139 := ⟨⟨_, Try.underlying139, rfl⟩, by kernel_rfl⟩
instance : Siz Try.prog 139 1 := ⟨by kernel_rfl⟩
set_option maxRecDepth 100000 in
instance : Zer Try.prog 139 [.pointer none] := ⟨(.pointer none), by kernel_rfl, rfl⟩
end Go.Proofs.Ytionnlckjjojnaa
